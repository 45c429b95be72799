/- Texts of ours. No condition. -/
import Derived.Test.YtaafldgiafcgfaaGreatD7
set_option linter.all false
open List renaming map->aa,replicate->ab,take->ac,getElem?_modify->ae,pairwise_append->af,length_erase_of_mem->ag,getElem?_replicate->aj,filter_eq_nil_iff->ak,map_singleton->am,range->ao,drop->ap
open Sx.AObj renaming adt->aq,cells->ar,own->au,fro->av,map->aw
open Bool renaming true->ax,false->ay
open Option renaming some->az,none->ba
open Go.Builtin renaming zeroCells->bc,firstCells->be,append_->bg
open Go.IntKind renaming i64->bo
open Go renaming Value->bp,World->br,Program->bt,size_zeroCells->bu,TypeId->bv,Addr->bw
open Go.Value renaming int->bz,string->cd
open Function renaming comp->ce
open List.Perm renaming append_right->cf,append_left->cg
namespace Sx
set_option maxRecDepth 100000
open Go Cv Go.Proofs
def yGu {l:List Int} {q r:Int} (h:yQ l q=ax) (h0:0<=r) (h1:r<=q):yQ l r=ax:=by
 obtain⟨a,b,c,d⟩:=kG h;have e:(l.all λn=>decide (1<=n) && decide (n<=1000000))=ax:=by
  rw[y4h];intro x hx;simpa using c x hx
 rw[yQ,e,y1v a,y1v h0,y1v (show r<=l.sum by omega)];rfl
def getD_none {l:List Int} {n:Nat} (h:l[n]? =ba):l.getD n 0=0:=by rw[y1h,h];rfl
def zBz {l:List Int} {q:Int} (h:yQ l q=ax) (n:Nat):0<=l.getD n 0/\l.getD n 0<=1000000:=by
 cases hn:l[n]? with
 |none=>rw[getD_none hn];decide
 |some x=>rw[zV hn];have:=(kG h).2.2.1 x (y1j hn);omega
def z9n {l:List Int} {q:Int} (h:yQ l q=ax) (n:Nat):0<=(uF l q).getD n 0/\(uF l q).getD n 0<=l.getD n 0:=by
 rw[uF,y1a h];obtain⟨a,b,c,d⟩:=kG h;cases hn:l[n]? with
 |none=>
  have:(vV l q)[n]? =ba:=by rw[List.getElem?_eq_none_iff,sI];exact List.getElem?_eq_none_iff.1 hn
  rw[getD_none hn,getD_none this];decide
 |some x=>
  rw[zV hn,zV (zKu l q n x hn)];have:=zEl l q n b (λy hy=>by have:=c y hy;omega);have:=c x (y1j hn);omega
def y0s (i:SpI) (h:splC.cnd i):yXt i:=by
 obtain⟨hl,hq,hle,hpa⟩:i.l.length<=1000000/\y9 i.q/\y9 i.least/\y9 i.part:=h;unfold yXt zDp jM;have no (e:¬(yQ i.l i.q=ax/\0<=i.part/\i.part<=100/\1<=i.least)):zBm i=[]:=by rw[zBm,y0y e]
 refine⟨⟨i.l,i.q⟩,rfl,rfl,⟨hl,hq⟩,λ_ _=>Cv.cnd.mk (λc=> ?_) (λc=>zH (λd=> ?_) (λd=>zH (λe=> ?_) (λe=>zH (λf=> ?_) (λf=> ?_))))⟩
 ·have c:yQ i.l i.q=ay:=by simpa using c
  exact⟨(),by rw[no (by rw[c];simp)];rfl,trivial⟩
 ·exact⟨(),by rw[no (by omega)];rfl,trivial⟩
 ·exact⟨(),by rw[no (by omega)];rfl,trivial⟩
 ·exact⟨(),by rw[no (by omega)];rfl,trivial⟩
 have c:yQ i.l i.q=ax:=by simpa using c
 obtain⟨h1,h2,h3,h4⟩:=kG c;have hq2:=zIt c;have m0:0<=i.q*i.part:=Int.mul_nonneg h2 oM;have m1:i.q*i.part<=i.q*100:=Int.mul_le_mul_of_nonneg_left oM h2;have hr:=yGu (r:=i.q*i.part / 100) c oM oM;have es:zBm i=m5 i.rs:=by rw[zBm,y1a ⟨c,by omega,by omega,by omega⟩]
 refine⟨⟨i.q,i.part,100⟩,rfl,rfl,rfl,⟨Z9,Z9,Z9,Z9,Z9,Z9⟩,λ_ _=>⟨⟨i.l,i.q*i.part / 100⟩,rfl,rfl,⟨hl,Z9,Z9⟩,λ_ _=>⟨i.rs,rfl,rfl,?_,rfl,⟨h1,?_,?_,hle,?_⟩,λ_ _=>⟨(),by rw[es],trivial⟩⟩⟩⟩
 ·rw[w64 (by dsimp only;omega)];rfl
 ·show(uF i.l (i.q*i.part / 100)).length=i.l.length;rw[uF,y1a hr,sI]
 ·show y9 (i.q-i.q*i.part / 100);exact⟨oM,oM⟩
 ·intro n;have a:=z9n hr n;have b:=zBz c n;exact⟨a.1,a.2,b.2⟩
def yPt:splC.ok Tryz.prog 214:=okw mixed (gokc zDe (gokc zOp (gokc z3r (gokc z3n gok0)))) 0 (λ_=>[]) (λ_=>[]) [] Tryz.func214 y0s
def yOl (n:Nat):ab n [D.v (.int .i64 0)]=iE (ab n 0):=by simp[iE]
def zWt (n k:Nat):(ab n (0:Int)).getD k 0=0:=by
 rw[y1h,aj];split<;>rfl
def yBs (n t k:Nat) (x:Int):((ab n (0:Int)).set t x).getD k 0=x/\k=t\/((ab n (0:Int)).set t x).getD k 0=0:=by
 rw[y1h,y4l];split
 ·rename_i e;split
  ·exact .inl ⟨rfl,e.symm⟩
  ·exact .inr rfl
 ·right;rw[<- y1h];exact zWt n k
def y0p (i:PsI) (h:proC.cnd i):yXi i:=by
 obtain⟨hl,hq,hle,hmo⟩:i.l.length<=1000000/\y9 i.q/\y9 i.least/\y9 i.most:=h;unfold yXi zLr sF zLb zLc zDp jM dI;have no (e:¬(yQ i.l i.q=ax/\1<=i.least/\0<=i.most)):zDd i=[]:=by rw[zDd,y0y e]
 refine⟨⟨i.l,i.q⟩,rfl,rfl,⟨hl,hq⟩,λ_ _=>Cv.cnd.mk (λc=> ?_) (λc=>zH (λd=> ?_) (λd=>zH (λe=> ?_) (λe=> ?_)))⟩
 ·have c:yQ i.l i.q=ay:=by simpa using c
  exact⟨(),by rw[no (by rw[c];simp)];rfl,trivial⟩
 ·exact⟨(),by rw[no (by omega)];rfl,trivial⟩
 ·exact⟨(),by rw[no (by omega)];rfl,trivial⟩
 have c:yQ i.l i.q=ax:=by simpa using c
 obtain⟨h1,h2,h3,h4⟩:=kG c;have hq2:=zIt c;have es:zDd i=m5 i.rs:=by rw[zDd,y1a ⟨c,by omega,by omega⟩]
 simp only[y3,y1o,yOl];have out (hn:¬(0<=i.top/\i.top<(i.l.length:Int))):i.rs=⟨i.l,ab i.l.length 0,i.least,i.q⟩:=by rw[PsI.rs,y0y hn]
 have ok0:RsI.ok ⟨i.l,ab i.l.length 0,i.least,i.q⟩:=⟨h1,by simp,hq,hle,λn=>by
  have:=zBz c n;dsimp only;rw[zWt];omega⟩
 refine⟨⟨oM,oM,oM,oM⟩,zH (λa=>zH (λb=> ?_) (λb=> ?_)) (λa=> ?_)⟩
 ·obtain⟨n,hn⟩:=yE (l:=i.l) (i:=i.top.toNat) oM;have hf:i.first=min (min n i.most) i.q:=by rw[PsI.first,zV hn]
  have bn:=h3 n (y1j hn);have hr0:(ab i.l.length (0:Int))[i.top.toNat]? =az 0:=by rw[aj,y1a (by omega)]
  have ers:i.rs=⟨i.l,(ab i.l.length 0).set i.top.toNat i.first,i.least,i.q-i.first⟩:=by rw[PsI.rs,y1a ⟨by omega,by omega⟩]
  refine⟨⟨oM,oM⟩,n,elI hn,?_⟩;rw[zSn hr0,<- hf];simp only[y3,y2d,y3v];refine⟨⟨oM,oM⟩,oM,⟨oM,oM⟩,i.first,elI (vH hr0),?_⟩;rw[w64 (x:=i.q-i.first) (by omega)];refine⟨⟨i.l,(ab i.l.length 0).set i.top.toNat i.first,i.least,i.q-i.first⟩,rF3 ⟨rfl,⟨h1,by simp,⟨Z9,Z9⟩,hle,λk=> ?_⟩,λ_ _=>⟨(),by rw[es,ers],trivial⟩⟩⟩;have bk:=zBz c k;dsimp only;rcases yBs i.l.length i.top.toNat k i.first with⟨g,gk⟩|g
  ·rw[g,gk,zV hn];omega
  ·rw[g];omega
 ·refine⟨⟨i.l,ab i.l.length 0,i.least,i.q⟩,rF3 ⟨rfl,ok0,λ_ _=>⟨(),by rw[es,out (by omega)],trivial⟩⟩⟩
 ·refine⟨⟨i.l,ab i.l.length 0,i.least,i.q⟩,rF3 ⟨rfl,ok0,λ_ _=>⟨(),by rw[es,out (by omega)],trivial⟩⟩⟩
def yQs:proC.ok Tryz.prog 213:=okw mixed (gokc zDe (gokc z3n gok0)) 0 (λ_=>[]) (λ_=>[]) [] Tryz.func213 y0p
structure AlI where
 p:Prd
 l:List zG
 q:Int
def AlI.qs (i:AlI):List Int:=i.l.map (·.qty)
def qL (i:AlI):List Int:=if i.p.rule=1 then uF i.qs i.q else if i.p.rule=2 then zDd ⟨i.qs,topI i.l,i.p.top,i.p.least,i.q⟩else if i.p.rule=3 then zBm ⟨i.qs,i.p.part,i.p.least,i.q⟩else[]
def allocC:Con:=zR AlI (λi=>[mD i.p,roV 5 (i.l.map j8),zA i.q]) (λ_=>[]) (λi=>i.l.length<=1000/\y9 i.q/\y9 i.p.least/\y9 i.p.top/\y9 i.p.part) (λ_=> .own 0) (λi=>[.own 2 1 (iE (qL i))])
def yPb (i:AlI):List SAnn:=[{ι:=Nat,slots:=λj=>[(7,.own 0),(13,zA j)],rows:=λj=>[.own 2 1 (iE (i.qs.take j))]}]
def yGh (i:AlI):Prop:=
 ∃(a:Nat),(↑a:Int)=0/\iE (ac a i.qs)=[]/\∃(b:Nat->Prop),∃(c:Nat->Nat),b a/\∀(d:Nat),b d->cnd (decide ((↑d:Int)<(↑(aa j8 i.l).length:Int))) ((0<=(↑d:Int)/\(↑d:Int)<(↑(aa j8 i.l).length:Int))/\∃(e:Int),∃(f:Int),∃(g:Int),∃(h:Int),∃(j:Bool),zE (aa j8 i.l) (↑d:Int).toNat 0 5=az [dI e,dI f,dI g,dI h,D.v (.bool j)]/\((iE (ac d i.qs)).length+1)*(8:Nat)<=(140737488355328:Nat)/\∃(k:Nat),(↑k:Int)=bo.wrap ((↑d:Int)+1)/\iE (ac k i.qs)=iE (ac d i.qs)++[[dI h]]/\b k/\c k<c d/\da (ar [V.d (D.v (cd (sb i.p.code))),V.own 0,V.d (dI i.p.tick),V.d (dI i.p.low),V.d (dI i.p.high),V.d (dI i.p.wide),V.d (dI i.p.rule),V.d (dI i.p.top),V.d (dI i.p.least),V.d (dI i.p.part),V.own 1] 25)/\da (av 1 (iE i.p.settle))/\da (av 1 (iE i.p.months))) (cnd (i.p.rule==1) (∃(e:LqI),iE e.l=iE (ac d i.qs)/\e.q=i.q/\(jM e)/\∀(f:Unit),True->∃(g:Unit),iE (qL i)=iE (uF e.l e.q)/\True) (cnd (i.p.rule==2) (∃(e:List zG),aa j8 e=aa j8 i.l/\e.length<=1000000/\∀(f:Unit),True->∃(g:PsI),iE g.l=iE (ac d i.qs)/\g.top=topI e/\g.most=i.p.top/\g.least=i.p.least/\g.q=i.q/\(g.l.length<=1000000/\((-9223372036854775808)<=g.q/\g.q<=9223372036854775807)/\((-9223372036854775808)<=g.least/\g.least<=9223372036854775807)/\(-9223372036854775808)<=g.most/\g.most<=9223372036854775807)/\∀(h:Unit),True->∃(j:Unit),iE (qL i)=iE (zDd g)/\True) (cnd (i.p.rule==3) (∃(e:SpI),iE e.l=iE (ac d i.qs)/\e.part=i.p.part/\e.least=i.p.least/\e.q=i.q/\(e.l.length<=1000000/\((-9223372036854775808)<=e.q/\e.q<=9223372036854775807)/\((-9223372036854775808)<=e.least/\e.least<=9223372036854775807)/\(-9223372036854775808)<=e.part/\e.part<=9223372036854775807)/\∀(f:Unit),True->∃(g:Unit),iE (qL i)=iE (zBm e)/\True) (∃(e:Unit),iE (qL i)=[]/\True))))
def yPi (i:AlI) (h:allocC.cnd i):yGh i:=by
 obtain⟨hl,hq,hle,hto,hpa⟩:i.l.length<=1000/\y9 i.q/\y9 i.p.least/\y9 i.p.top/\y9 i.p.part:=h;have hql:i.qs.length=i.l.length:=by simp[AlI.qs]
 unfold yGh jM dI;simp only[y3,y0z];refine⟨0,by(first|exact rfl|exact trivial),by(first|exact rfl|exact trivial),λj=>j<=i.l.length,λj=>i.l.length-j,y2a _,λj hj=>zH (λc=> ?_) (λc=> ?_)⟩
 ·have hj':j<i.l.length:=by omega
  obtain⟨o,ho⟩:=yE (l:=i.l) (i:=j) hj';have hqo:i.qs[j]? =az o.qty:=by rw[AlI.qs,y2n,ho];rfl
  refine⟨⟨oM,oM⟩,o.id,o.side,o.price,o.qty,o.top,yQy ho,by rw[y1q];omega,j+1,wjn oM,?_,hj',Z9,k0q⟩;rw[y2e,hqo];simp[iE]
 have hje:j=i.l.length:=by omega
 subst hje;rw[y1k (l:=i.qs) (by omega)];refine Cv.cnd.mk (λa=> ?_) (λa=>Cv.cnd.mk (λb=> ?_) (λb=>Cv.cnd.mk (λd=> ?_) (λd=> ?_)))
 ·have a:i.p.rule=1:=by simpa using a
  exact⟨⟨i.qs,i.q⟩,rfl,rfl,⟨Z9,hq⟩,λ_ _=>⟨(),by rw[qL,y1a a],trivial⟩⟩
 ·have a:¬i.p.rule=1:=by simpa using a
  have b:i.p.rule=2:=by simpa using b
  exact⟨i.l,rfl,oM,λ_ _=>⟨⟨i.qs,topI i.l,i.p.top,i.p.least,i.q⟩,rF4 ⟨rfl,⟨Z9,hq,hle,hto⟩,λ_ _=>⟨(),by rw[qL,y0y a,y1a b],trivial⟩⟩⟩⟩
 ·have a:¬i.p.rule=1:=by simpa using a
  have b:¬i.p.rule=2:=by simpa using b
  have d:i.p.rule=3:=by simpa using d
  exact⟨⟨i.qs,i.p.part,i.p.least,i.q⟩,rF3 ⟨rfl,⟨Z9,hq,hle,hpa⟩,λ_ _=>⟨(),by rw[qL,y0y a,y0y b,y1a d],trivial⟩⟩⟩
 ·have a:¬i.p.rule=1:=by simpa using a
  have b:¬i.p.rule=2:=by simpa using b
  have d:¬i.p.rule=3:=by simpa using d
  exact⟨(),by rw[qL,y0y a,y0y b,y0y d];rfl,trivial⟩
def yCi:allocC.ok Tryz.prog 200:=okw mixed (gokc z3r (gokc z8i (gokc yQs (gokc yPt gok0)))) 0 (λ_=>[]) (λi=>yPb i) [] Tryz.func200 yPi
def wL (l:List Nat) (t:Int):Int:=match l with
 |[]=>t
 |k::_=>k
def qY:List Nat->Int->Int
 |[],p=>p
 |k::l,_=>qY l k
structure zSz (s:Slot) (n k:Nat) (p t:Int):Prop where
 used:s.used=ax
 no:s.n=k
 queue:s.queue=n
 ahead:s.ahead=p
 back:s.back=t
 q1:0<=s.qty
 q2:s.qty<=1000000
def seg (sl:List Slot) (n:Nat):Int->List Nat->Int->Prop
 |_,[],_=>True
 |p,k::l,t=>(∃s,sl[k]? =az s/\zSz s n k p (wL l t))/\seg sl n k l t
def zGg (l1 l2:List Nat) (t:Int):wL (l1++l2) t=wL l1 (wL l2 t):=by cases l1<;>rfl
def cV:∀(l1 l2:List Nat) (p:Int),qY (l1++l2) p=qY l2 (qY l1 p)
 |[],l2,p=>rfl
 |k::l1,l2,p=>cV l1 l2 k
def lC {sl:List Slot} {n:Nat}:∀{l1 l2:List Nat} {p t:Int},seg sl n p (l1++l2) t↔seg sl n p l1 (wL l2 t)/\seg sl n (qY l1 p) l2 t
 |[],l2,p,t=>by simp[seg,qY]
 |k::l1,l2,p,t=>by
  rw[y2p,seg,seg,zGg,lC,qY,and_assoc]
def z5m {sl:List Slot} {n k:Nat}:∀{l:List Nat} {p t:Int},seg sl n p l t->k∈l->∃s p' t',sl[k]? =az s/\zSz s n k p' t'
 |j::l,p,t,h,hk=>by
  rcases y1r.1 hk with rfl|hk
  ·obtain⟨⟨s,h1,h2⟩,_⟩:=h;exact⟨s,_,_,h1,h2⟩
  ·exact z5m h.2 hk
def wD {sl sl':List Slot} {n:Nat}:∀{l:List Nat} {p t:Int},(∀k∈l,sl'[k]? =sl[k]?)->seg sl n p l t->seg sl' n p l t
 |[],p,t,_,h=>h
 |k::l,p,t,e,⟨⟨s,h1,h2⟩,h3⟩=>⟨⟨s,by rw[e k y1f];exact h1,h2⟩,wD (λj hj=>e j (y1g _ hj)) h3⟩
def g8 {α:Type} {l:List α} {f:α->α} {i j:Nat} (h:i≠j):(l.modify i f)[j]? =l[j]? :=by rw[ae];cases l[j]? <;>simp[h]
def sO {α:Type} {l:List α} {f:α->α} {i:Nat} {x:α} (h:l[i]? =az x):(l.modify i f)[i]? =az (f x):=by rw[ae,h];simp
def wQ {α:Type} {l:List α} {x:α} {i j:Nat} (h:i≠j):(l.set i x)[j]? =l[j]? :=by rw[y4l,y0y h]
def gJ {α:Type} {l:List α} {x:α} {i:Nat} (h:i<l.length):(l.set i x)[i]? =az x:=by rw[y4l,y1a rfl,y1a h]
def cK {α:Type} {Q:List α} {n m:Nat} {x y:α} (h:(Q.set n x)[m]? =az y):(m=n/\y=x)\/(m≠n/\Q[m]? =az y):=by
 by_cases e:n=m
 ·subst e;have hn:n<Q.length:=by
   have:=(y1c.1 h).1;simpa using this
  rw[gJ hn]at h;cases h;exact .inl ⟨rfl,rfl⟩
 ·rw[wQ e]at h;exact .inr ⟨λc=>e c.symm,h⟩
def zVw {sl:List Slot} {n k:Nat} {l:List Nat} {p t:Int} (t':Int) (hk:k∉l) (h:seg sl n p (l++[k]) t):seg (sl.modify k λs=>{s with back:=t'}) n p (l++[k]) t':=by
 rw[lC]at h ⊢;obtain⟨h1,⟨s,h2,h3⟩,_⟩:=h;refine⟨wD (λj hj=>g8 (λe=>hk (e▸hj))) h1,⟨_,sO h2,?_⟩,trivial⟩;exact⟨h3.used,h3.no,h3.queue,h3.ahead,rfl,h3.q1,h3.q2⟩
def z7y {sl:List Slot} {n k:Nat} {l:List Nat} {p t:Int} (p':Int) (hk:k∉l) (h:seg sl n p (k::l) t):seg (sl.modify k λs=>{s with ahead:=p'}) n p' (k::l) t:=by
 obtain⟨⟨s,h1,h2⟩,h3⟩:=h;refine⟨⟨_,sO h1,?_⟩,wD (λj hj=>g8 (λe=>hk (e▸hj))) h3⟩;exact⟨h2.used,h2.no,h2.queue,rfl,h2.back,h2.q1,h2.q2⟩
def jS (l:List Nat):l=[]\/∃(x:List Nat) (j:Nat),l=x++[j]/\∀p:Int,qY l p=(j:Int):=by
 rcases List.eq_nil_or_concat l with rfl|⟨x,j,rfl⟩
 ·exact .inl rfl
 ·exact .inr ⟨x,j,by simp,λp=>by rw[List.concat_eq_append,cV];rfl⟩
def nO (l:List Nat):qY l (-1)= -1↔l=[]:=by
 rcases jS l with rfl|⟨x,j,rfl,e⟩
 ·simp[qY]
 ·rw[e];simp
def zPz (l:List Nat):wL l (-1)= -1↔l=[]:=by
 cases l with
 |nil=>simp[wL]
 |cons k l=>simp only[wL];constructor
            ·intro h;omega
            ·intro h;cases h
def eU {α β:Type} {g:α->β} {f:α->α} (h:∀x,g (f x)=g x):∀(l:List α) (i:Nat),(l.modify i f).map g=l.map g
 |[],i=>by simp
 |a::l,0=>by simp[h]
 |a::l,i+1=>by rw[y6c,y1m,y1m,eU h l i]
def zMo:∀(m:Nat) {l:List Nat},l.Nodup->(∀k∈l,k<m)->l.length<=m
 |0,[],_,_=>y1u 0
 |0,k::l,_,h=>absurd (h k y1f) oM
 |m+1,l,hn,h=>by
  have:=zMo m (hn.erase m) λk hk=>by
   have:=(hn.mem_erase_iff).1 hk;have:=h k this.2;omega
  by_cases hm:m∈l
  ·rw[ag hm]at this;omega
  ·rw[List.erase_of_not_mem hm]at this;omega
def z4v {f g:Nat->Int} {k:Nat}:∀{l:List Nat},l.Nodup->k∈l->(∀j∈l,j≠k->g j=f j)->(l.map g).sum=(l.map f).sum+(g k-f k)
 |j::l,hn,hk,h=>by
  have hn:=y3l.1 hn;rw[y1m,y1m,y2o,y2o];rcases y1r.1 hk with rfl|hk
  ·have:l.map g=l.map f:=y2g λi hi=>h i (y1g _ hi) (λe=>hn.1 (e▸hi))
   rw[this];omega
  ·have e:=h j y1f (λe=>hn.1 (e▸hk));rw[z4v hn.2 hk (λi hi=>h i (y1g _ hi)),e];omega
def yEt {f:Nat->Int} {m:Int}:∀{l:List Nat},(∀j∈l,0<=f j/\f j<=m)->0<=(l.map f).sum/\(l.map f).sum<=m*l.length
 |[],_=>by simp
 |j::l,h=>by
  have:=h j y1f;have:=yEt (l:=l) λi hi=>h i (y1g _ hi)
  rw[y1m,y2o,y1d,Int.natCast_add,Int.mul_add];simp only[Int.natCast_one,Int.mul_one];omega
def Arena.qsum (a:Arena) (l:List Nat):Int:=(l.map λk=>(a.slotAt k).qty).sum
structure Arena.Wf0 (a:Arena) (Q:List (List Nat)):Prop where
 len:a.slots.length=250
 ql:a.queues.length=Q.length
 q:∀(n:Nat) (l:List Nat),Q[n]? =az l->a.queues[n]? =az ⟨wL l (-1),qY l (-1),a.qsum l,l.length⟩
 sg:∀(n:Nat) (l:List Nat),Q[n]? =az l->seg a.slots n (-1) l (-1)
 nd:∀(n:Nat) (l:List Nat),Q[n]? =az l->l.Nodup
 us:∀(k:Nat) (s:Slot),a.slots[k]? =az s->s.used=ax->∃(n:Nat) (l:List Nat),Q[n]? =az l/\k∈l
 free:a.free=((a.slots.map (·.used)).countP (!·):Nat)
structure Arena.Wf (a:Arena) (Q:List (List Nat)):Prop extends a.Wf0 Q where
 pos:∀(n:Nat) (l:List Nat),Q[n]? =az l->∀k∈l,1<=(a.slotAt k).qty
def Arena.Wf0.mem {a:Arena} {Q:List (List Nat)} (h:a.Wf0 Q) {n k:Nat} {l:List Nat} (hl:Q[n]? =az l) (hk:k∈l):k<250/\(∃p t,zSz (a.slotAt k) n k p t)/\a.slots[k]? =az (a.slotAt k):=by
 obtain⟨s,p,t,h1,h2⟩:=z5m (h.sg n l hl) hk;have e:a.slotAt k=s:=zV h1;have hlt:=(y1c.1 h1).1;rw[h.len]at hlt;exact⟨hlt,⟨p,t,by rw[e];exact h2⟩,by rw[e];exact h1⟩
def Arena.Wf0.one {a:Arena} {Q:List (List Nat)} (h:a.Wf0 Q) {n m k:Nat} {l l':List Nat} (hl:Q[n]? =az l) (hl':Q[m]? =az l') (hk:k∈l) (hk':k∈l'):n=m:=by
 obtain⟨_,⟨_,_,h1⟩,_⟩:=h.mem hl hk;obtain⟨_,⟨_,_,h2⟩,_⟩:=h.mem hl' hk';have:=h1.queue;have:=h2.queue;omega
def Arena.Wf0.short {a:Arena} {Q:List (List Nat)} (h:a.Wf0 Q) {n:Nat} {l:List Nat} (hl:Q[n]? =az l):l.length<=250:=zMo 250 (h.nd n l hl) λk hk=>(h.mem hl hk).1
def b6 {a a':Arena} {l:List Nat} (h:∀k∈l,(a'.slotAt k).qty=(a.slotAt k).qty):a'.qsum l=a.qsum l:=by rw[Arena.qsum,Arena.qsum,y2g h]
def Arena.Wf0.sum {a:Arena} {Q:List (List Nat)} (h:a.Wf0 Q) {n:Nat} {l:List Nat} (hl:Q[n]? =az l):0<=a.qsum l/\a.qsum l<=250000000:=by
 have:=yEt (f:=λk=>(a.slotAt k).qty) (m:=1000000) (l:=l) λj hj=>by
  obtain⟨_,⟨_,_,h1⟩,_⟩:=h.mem hl hj;exact⟨h1.q1,h1.q2⟩
 have:=h.short hl;rw[Arena.qsum];omega
def zQa {sl:List Slot} {n:Nat}:∀{l:List Nat} {p:Int},seg sl n p l (-1)->zUk sl (wL l (-1)) l
 |[],p,_=>rfl
 |k::l,p,⟨⟨s,h1,h2⟩,h3⟩=>by
  refine⟨rfl,(y1c.1 h1).1,?_⟩;rw[zV h1,h2.back];exact zQa h3
def Arena.Wf0.ok {a:Arena} {Q:List (List Nat)} (h:a.Wf0 Q):a.okAt:=by
 refine⟨by rw[h.len];decide,λk s hk hu=> ?_⟩;obtain⟨n,l,hl,hkl⟩:=h.us k s hk hu;have hQ:=(y1c.1 hl).1;have hql:=h.ql;obtain⟨l1,l2,rfl⟩:=List.append_of_mem hkl;have hsg:=h.sg n _ hl;have hnd:=h.nd n _ hl;rw[lC]at hsg;obtain⟨_,⟨s',h1,h2⟩,_⟩:=hsg;rw[hk]at h1;cases h1;have hq:=h2.queue;have hd:=y3g.1 hnd;have hd2:=y3l.1 hd.2.1;refine⟨⟨oM,oM⟩,h2.q2,?_,?_⟩
 ·rw[h2.ahead];rcases jS l1 with rfl|⟨x,j,rfl,e⟩
  ·exact .inl rfl
  ·have hj:j∈x++[j]:=by simp
   have hjl:=(h.mem hl (y2t _ hj)).1;rw[e,h.len];refine .inr ⟨oM,oM,λe2=> ?_⟩;have:j=k:=by omega
   exact hd.2.2 j hj k y1f this
 ·rw[h2.back];cases l2 with
  |nil=>exact .inl rfl
  |cons j x=>
   have hjl:=(h.mem hl (y3a _ (y1g _ y1f))).1;rw[wL,h.len];refine .inr ⟨oM,oM,λe2=> ?_⟩;have:j=k:=by omega
   exact hd2.1 (this▸y1f)
def Arena.Wf0.open {a:Arena} {Q:List (List Nat)} (h:a.Wf0 Q):a.openQ.Wf0 (Q++[[]]):=by
 have g:∀{n:Nat} {l:List Nat},(Q++[[]])[n]? =az l->Q[n]? =az l\/(n=Q.length/\l=[]):=by
  intro n l hl;rw[List.getElem?_append]at hl;split at hl
  ·exact .inl hl
  ·rename_i hn;have:=(y1c.1 hl).1;simp only[y2z]at this;have e:n-Q.length=0:=by omega
   rw[e]at hl;cases hl;exact .inr ⟨oM,rfl⟩
 refine⟨h.len,by simp[Arena.openQ,h.ql],λn l hl=> ?_,λn l hl=> ?_,λn l hl=> ?_,λk s hk hu=> ?_,h.free⟩
 ·rcases g hl with hl|⟨rfl,rfl⟩
  ·show(a.queues++[aH])[n]? =_;rw[y3r (by have:=(y1c.1 hl).1;have:=h.ql;omega)];exact h.q n l hl
  ·show(a.queues++[aH])[_]? =_;rw[<- h.ql,y3c (y1u _),y6g];rfl
 ·rcases g hl with hl|⟨rfl,rfl⟩
  ·exact h.sg n l hl
  ·trivial
 ·rcases g hl with hl|⟨rfl,rfl⟩
  ·exact h.nd n l hl
  ·exact List.nodup_nil
 ·obtain⟨n,l,hl,hkl⟩:=h.us k s hk hu;exact⟨n,l,by rw[y3r (y1c.1 hl).1];exact hl,hkl⟩
def Arena.Wf.open {a:Arena} {Q:List (List Nat)} (h:a.Wf Q):a.openQ.Wf (Q++[[]]):=by
 refine⟨h.toWf0.open,λn l hl k hk=> ?_⟩;rw[List.getElem?_append]at hl;split at hl
 ·exact h.pos n l hl k hk
 ·have:=(y1c.1 hl).1;simp only[y2z]at this;have e:n-Q.length=0:=by omega
  rw[e]at hl;cases hl;cases hk
def zNo {sl sl':List Slot} {n:Nat}:∀{l:List Nat} {p t:Int},(∀k∈l,∀s,sl[k]? =az s->∃s',sl'[k]? =az s'/\s'.used=s.used/\s'.n=s.n/\s'.queue=s.queue/\s'.ahead=s.ahead/\s'.back=s.back/\0<=s'.qty/\s'.qty<=1000000)->seg sl n p l t->seg sl' n p l t
 |[],p,t,_,h=>h
 |k::l,p,t,e,⟨⟨s,h1,h2⟩,h3⟩=>by
  obtain⟨s',q0,q1,q2,q3,q4,q5,q6,q7⟩:=e k y1f s h1;exact⟨⟨s',q0,⟨q1.trans h2.used,q2.trans h2.no,q3.trans h2.queue,q4.trans h2.ahead,q5.trans h2.back,q6,q7⟩⟩,zNo (λj hj=>e j (y1g _ hj)) h3⟩
def zUb (a:Arena) (n:Int) (t:Bool) (j:Nat):(a.topF n t).slotAt j=if a.usedAt n=ax/\j=n.toNat then{a.slotAt j with top:=t}else a.slotAt j:=by
 rw[Arena.topF];by_cases hu:a.usedAt n=ax
 ·rw[y1a hu];by_cases e:j=n.toNat
  ·subst e;rw[y1a ⟨hu,rfl⟩];have hlt:n.toNat<a.slots.length:=by
    simp only[Arena.usedAt,y1l,y2v]at hu;omega
   show(a.slots.modify n.toNat _).getD n.toNat slot0=_;obtain⟨s,hs⟩:=yE hlt;rw[zV (sO hs),xE hs]
  ·rw[y0y (λh=>e h.2)];show(a.slots.modify n.toNat _).getD j slot0=a.slots.getD j slot0;rw[y1h,g8 (λh=>e h.symm),y1h]
 ·rw[y0y hu,y0y (λh=>hu h.1)]
def Arena.Wf.top {a:Arena} {Q:List (List Nat)} (h:a.Wf Q) (n:Int) (t:Bool):(a.topF n t).Wf Q:=by
 have hq:∀j,((a.topF n t).slotAt j).qty=(a.slotAt j).qty:=by
  intro j;rw[zUb];split<;>rfl
 by_cases hu:a.usedAt n=ax
 ·have e:a.topF n t={a with slots:=a.slots.modify n.toNat λs=>{s with top:=t}}:=by rw[Arena.topF,y1a hu]
  have hm:∀(k:Nat) (s:Slot),a.slots[k]? =az s->∃s',(a.topF n t).slots[k]? =az s'/\s'.used=s.used/\s'.n=s.n/\s'.queue=s.queue/\s'.ahead=s.ahead/\s'.back=s.back/\s'.qty=s.qty:=by
   intro k s hk;rw[e];by_cases ek:n.toNat=k
   ·subst ek;exact⟨_,sO hk,rfl,rfl,rfl,rfl,rfl,rfl⟩
   ·exact⟨s,by rw[g8 ek];exact hk,rF5 rfl⟩
  have hl:(a.topF n t).slots.length=250:=by rw[e];simpa using h.len
  have hmu:(a.topF n t).slots.map (·.used)=a.slots.map (·.used):=by rw[e];exact eU (g:=λs:Slot=>s.used) (f:=λs:Slot=>{s with top:=t}) (λ_=>rfl) _ _
  refine⟨⟨hl,by rw[e];exact h.ql,λm l hm'=> ?_,λm l hm'=> ?_,h.nd,λk s hk hs=> ?_,by rw[hmu];rw[e];exact h.free⟩,λm l hm' k hk=>by rw[hq];exact h.pos m l hm' k hk⟩
  ·rw[b6 λk _=>hq k];rw[e];exact h.q m l hm'
  ·refine zNo (λk hk s hs=> ?_) (h.sg m l hm');obtain⟨s',q0,q1,q2,q3,q4,q5,q6⟩:=hm k s hs;obtain⟨_,⟨_,_,h2⟩,h3⟩:=h.mem hm' hk;rw[hs]at h3;cases h3;exact⟨s',q0,q1,q2,q3,q4,q5,by rw[q6];exact h2.q1,by rw[q6];exact h2.q2⟩
  ·have hlt:=(y1c.1 hk).1;rw[hl,<- h.len]at hlt;obtain⟨s0,h0⟩:=yE hlt;obtain⟨s',q0,q1,_⟩:=hm k s0 h0;rw[hk]at q0;cases q0;exact h.us k s0 h0 (by rw[<- q1];exact hs)
 ·have e:a.topF n t=a:=by rw[Arena.topF,y0y hu]
  rw[e];exact h
def zKp {sl:List Slot} {k:Nat} {s x:Slot} (hk:sl[k]? =az s):((sl.set k x).map (·.used)).countP (!·)+(if s.used=ax then 0 else 1)=(sl.map (·.used)).countP (!·)+(if x.used=ax then 0 else 1):=by
 have hlt:=(y1c.1 hk).1;have e:(sl.map (·.used))[k]'(by simpa using hlt)=s.used:=by
  rw[List.getElem_map,(y1c.1 hk).2]
 rw[List.map_set,List.countP_set (by simpa using hlt),e];have hp:s.used=ay->1<=(sl.map (·.used)).countP (!·):=by
  intro h;apply List.countP_pos_iff.2;exact⟨s.used,y2c (y1j hk),by rw[h];rfl⟩
 generalize (sl.map (·.used)).countP (!·)=c at hp ⊢
 cases h1:s.used<;>cases h2:x.used
 all_goals
  simp only[h1,y6f,Bool.not_true,y1p,↓reduceIte,if_true,if_false]at hp ⊢
  try have hp:=hp trivial
  omega
def z3l {sl:List Slot}:(sl.map (·.used)).countP (!·)<=sl.length:=by
 have:=List.countP_le_length (p:=λb:Bool=> !b) (l:=sl.map (·.used))
 simpa using this
def Arena.Wf0.unused {a:Arena} {Q:List (List Nat)} (h:a.Wf0 Q) (hf:a.free≠0):∃k:Nat,qT a.slots=k/\k<250/\a.slots[k]? =az (a.slotAt k)/\(a.slotAt k).used=ay/\∀(n:Nat) (l:List Nat),Q[n]? =az l->k∉l:=by
 have hx:∃s∈a.slots,s.used=ay:=by
  have hp:0<(a.slots.map (·.used)).countP (!·):=by have:=h.free;omega
  obtain⟨b,hb,hb2⟩:=List.countP_pos_iff.1 hp;obtain⟨s,hs,rfl⟩:=y2m.1 hb;exact⟨s,hs,by simpa using hb2⟩
 obtain⟨s,hs,hu⟩:=hx;cases hi:a.slots.findIdx? λs=> !s.used with
 |none=>
  rw[y5l]at hi;have:=hi s hs;rw[hu]at this;cases this
 |some k=>
  have hi':=hi;rw[y4e]at hi;obtain⟨hk,hku,_⟩:=hi;have hk1:a.slots[k]? =az a.slots[k]:=y2h hk;have e:=xE hk1;rw[<- e]at hku;have hku:(a.slotAt k).used=ay:=by simpa using hku
  refine⟨k,by rw[qT,hi'];rfl,by rw[<- h.len];exact hk,by rw[e];exact hk1,hku,λn l hl hkl=> ?_⟩;obtain⟨_,⟨_,_,h2⟩,_⟩:=h.mem hl hkl;have:=h2.used;rw[hku]at this;cases this
def Arena.Wf.put {a:Arena} {Q:List (List Nat)} (h:a.Wf Q) {n:Nat} {l:List Nat} (hl:Q[n]? =az l) (hf:a.free≠0) {id qty:Int} (top:Bool) (hq:1<=qty/\qty<=1000000):
 ∃k:Nat,qT a.slots=k/\k<250/\(a.slotAt k).used=ay/\(∀(m:Nat) (l:List Nat),Q[m]? =az l->k∉l)/\(a.put n id qty top).Wf (Q.set n (l++[k]))/\
  (∀j,((a.put n id qty top).slotAt j).ent=if j=k then⟨k,id,qty,top⟩else(a.slotAt j).ent)/\(a.put n id qty top).free=a.free-1:=by
 obtain⟨k,hk,hk2,hk1,hku,hkn⟩:=h.toWf0.unused hf;have hkl:=hkn n l hl;have hnQ:=(y1c.1 hl).1;have hqn:=h.q n l hl;have hnq:a.queues.getD n aH=⟨wL l (-1),qY l (-1),a.qsum l,l.length⟩:=zV hqn;have hsum:=h.toWf0.sum hl;have hsh:=h.toWf0.short hl;have hlen:=h.len;have hcl:=z3l (sl:=a.slots);have hfree:=h.free;obtain⟨x,hx⟩:∃x:Slot,x=⟨ax,k,id,qty,top,n,qY l (-1),-1⟩:=⟨_,rfl⟩
 have hS:(a.put n id qty top).slots=if qY l (-1)= -1 then a.slots.set k x else(a.slots.set k x).modify (qY l (-1)).toNat λs=>{s with back:=k}:=by
  simp only[Arena.put,y1o,hnq,hk,hx]
 have hQs:(a.put n id qty top).queues=a.queues.set n ⟨wL (l++[k]) (-1),k,a.qsum l+qty,(l.length:Int)+1⟩:=by
  simp only[Arena.put,y1o,hnq,hk];rw[w64 (by omega),w64 (by omega)];congr 2;by_cases e:l=[]
  ·subst e;rfl
  ·rw[y0y (λc=>e ((nO l).1 c)),zGg];cases l with
   |nil=>exact absurd rfl e
   |cons y ys=>rfl
 have hF:(a.put n id qty top).free=a.free-1:=by
  simp only[Arena.put];rw[w64 (by omega)]
 have hset:(a.slots.set k x)[k]? =az x:=gJ oM;have hlo:qY l (-1)= -1\/∃(y:List Nat) (j:Nat),l=y++[j]/\qY l (-1)=(j:Int):=by
  rcases jS l with e|⟨y,j,e,e2⟩
  ·exact .inl ((nO l).2 e)
  ·exact .inr ⟨y,j,e,e2 _⟩
 have hoth:∀j,j≠k->(qY l (-1)≠(j:Int))->(a.put n id qty top).slots[j]? =a.slots[j]? :=by
  intro j hj hj2;rw[hS];split
  ·exact wQ (λe=>hj e.symm)
  ·rcases hlo with e|⟨y,i,_,e⟩
   ·contradiction
   ·rw[g8 (by omega),wQ (λe=>hj e.symm)]
 have hself:(a.put n id qty top).slots[k]? =az x:=by
  rw[hS];split
  ·exact hset
  ·rcases hlo with e|⟨y,i,e1,e⟩
   ·contradiction
   ·have:i≠k:=by rintro rfl;exact hkl (by rw[e1];simp)
    rw[g8 (by omega)];exact hset
 have hlike:∀j,j≠k->((a.put n id qty top).slotAt j).ent=(a.slotAt j).ent/\((a.put n id qty top).slotAt j).used=(a.slotAt j).used/\((a.put n id qty top).slotAt j).qty=(a.slotAt j).qty:=by
  intro j hj;by_cases c:qY l (-1)=(j:Int)
  ·have e:(a.put n id qty top).slots=(a.slots.set k x).modify j λs=>{s with back:=k}:=by
    rw[hS,y0y (by omega),c];rfl
   by_cases hjl:j<a.slots.length
   ·obtain⟨s,hs⟩:=yE hjl;have h1:(a.put n id qty top).slots[j]? =az {s with back:=k}:=by rw[e];exact sO (by rw[wQ (λe=>hj e.symm)];exact hs)
    rw[xE h1,xE hs];exact⟨rfl,rfl,rfl⟩
   ·have h1:(a.put n id qty top).slots[j]? =ba:=y2i (by rw[e];simpa using hjl);have h2:a.slots[j]? =ba:=y2i oM;rw[Arena.slotAt,Arena.slotAt,y1h,y1h,h1,h2];exact⟨rfl,rfl,rfl⟩
  ·have:=hoth j hj c;rw[Arena.slotAt,Arena.slotAt,y1h,y1h,this];exact⟨rfl,rfl,rfl⟩
 have hselfA:(a.put n id qty top).slotAt k=x:=xE hself;have hent:∀j,((a.put n id qty top).slotAt j).ent=if j=k then⟨k,id,qty,top⟩else(a.slotAt j).ent:=by
  intro j;split
  ·rename_i e;rw[e,hselfA,hx];rfl
  ·rename_i e;exact(hlike j e).1
 have gQ:∀{m:Nat} {l':List Nat},(Q.set n (l++[k]))[m]? =az l'->(m=n/\l'=l++[k])\/(m≠n/\Q[m]? =az l'):=by
  intro m l' hm;exact cK hm
 have hsgn:seg (a.put n id qty top).slots n (-1) (l++[k]) (-1):=by
  rw[lC];refine⟨?_,⟨x,hself,?_⟩,trivial⟩
  ·rcases jS l with e|⟨y,j,e,e2⟩
   ·subst e;trivial
   ·have h0:=h.sg n l hl;have hnd:=h.nd n l hl;rw[hS,y0y (by rw[e2];omega),e2,y1o];rw[e]at h0 hnd hkl ⊢;have hd:=y3g.1 hnd;refine zVw (k:Int) (λhj=>hd.2.2 j hj j y1f rfl) (t:= -1) ?_;exact wD (λi hi=>wQ (λe=>hkl (e▸hi))) h0
  ·rw[hx];exact⟨rfl,rfl,rfl,rfl,rfl,Z9,hq.2⟩
 refine⟨k,hk,hk2,hku,hkn,⟨⟨?_,?_,?_,?_,?_,?_,?_⟩,?_⟩,hent,hF⟩
 ·rw[hS];split<;>simp[hlen]
 ·rw[hQs];simp[h.ql]
 ·intro m l' hm;rcases gQ hm with⟨rfl,rfl⟩|⟨e,hm⟩
  ·rw[hQs,gJ (by rw[h.ql];exact hnQ),cV];have:(a.put m id qty top).qsum (l++[k])=a.qsum l+qty:=by
    rw[Arena.qsum,y1i,y6t];have e1:l.map (λk=>((a.put m id qty top).slotAt k).qty)=l.map λk=>(a.slotAt k).qty:=y2g λj hj=>(hlike j (λe=>hkl (e▸hj))).2.2
    rw[e1];simp only[y1m,y4q,y2o,List.sum_nil,hselfA];rw[hx,Arena.qsum];dsimp only;omega
   rw[this];simp[qY]
  ·rw[hQs,wQ (λc=>e c.symm),h.q m l' hm,b6];intro j hj;exact(hlike j (λe=>hkn m l' hm (e▸hj))).2.2.symm
 ·intro m l' hm;rcases gQ hm with⟨rfl,rfl⟩|⟨e,hm⟩
  ·exact hsgn
  ·refine wD (λj hj=>hoth j (λe=>hkn m l' hm (e▸hj)) λc=> ?_) (h.sg m l' hm);rcases hlo with e2|⟨y,i,e1,e2⟩
   ·omega
   ·have:i=j:=by omega
    exact e (h.toWf0.one hm hl hj (by rw[e1];simp[this]))
 ·intro m l' hm;rcases gQ hm with⟨rfl,rfl⟩|⟨e,hm⟩
  ·refine y3g.2 ⟨h.nd m l hl,by simp,?_⟩;rintro i hi j hj rfl;rw[y2l.1 hj]at hi;exact hkl hi
  ·exact h.nd m l' hm
 ·intro j s hj hs;by_cases e:j=k
  ·exact⟨n,l++[k],gJ hnQ,by rw[e];simp⟩
  ·have hu:(a.slotAt j).used=ax:=by rw[<- (hlike j e).2.1,xE hj];exact hs
   have hjl:j<a.slots.length:=by
    have:=(y1c.1 hj).1;rw[hS]at this;split at this<;>simpa using this
   obtain⟨s',hs'⟩:=yE hjl;rw[xE hs']at hu;obtain⟨m,l',hm,hjm⟩:=h.us j s' hs' hu;by_cases em:m=n
   ·subst em;rw[hl]at hm;cases hm;exact⟨m,l++[k],gJ hnQ,y2t _ hjm⟩
   ·exact⟨m,l',by rw[wQ (λc=>em c.symm)];exact hm,hjm⟩
 ·have hmu:(a.put n id qty top).slots.map (·.used)=(a.slots.set k x).map (·.used):=by
   rw[hS];split
   ·rfl
   ·exact eU (g:=λs:Slot=>s.used) (f:=λs:Slot=>{s with back:=k}) (λ_=>rfl) _ _
  have:=zKp (x:=x) hk1;rw[hku,y0y (by decide),show x.used=ax by rw[hx],y1a rfl]at this;rw[hmu,hF,hfree];omega
 ·intro m l' hm j hj;rcases gQ hm with⟨rfl,rfl⟩|⟨e,hm⟩
  ·rcases y2f.1 hj with hj|hj
   ·rw[(hlike j (λe=>hkl (e▸hj))).2.2];exact h.pos m l hl j hj
   ·rw[y2l.1 hj,hselfA,hx];exact hq.1
  ·rw[(hlike j (λe=>hkn m l' hm (e▸hj))).2.2];exact h.pos m l' hm j hj
def zDc (a:Arena) (k:Nat) (q:Int) (j:Nat) (hk:k<a.slots.length):(a.less k q).slotAt j=if j=k then{a.slotAt j with qty:=(a.slotAt j).qty-q}else a.slotAt j:=by
 split
 ·rename_i e;subst e;obtain⟨s,hs⟩:=yE hk;rw[xE hs,xE (a:=a.less j q) (sO hs)]
 ·rename_i e;show(a.slots.modify k _).getD j slot0=a.slots.getD j slot0;rw[y1h,g8 (λc=>e c.symm),y1h]
def Arena.Wf0.less {a:Arena} {Q:List (List Nat)} (h:a.Wf0 Q) {n k:Nat} {l:List Nat} (hl:Q[n]? =az l) (hk:k∈l) {q:Int} (hq:0<=q/\q<=(a.slotAt k).qty):(a.less k q).Wf0 Q:=by
 obtain⟨hk2,⟨p,t,hs⟩,hk1⟩:=h.mem hl hk;have hkl:k<a.slots.length:=by rw[h.len];exact hk2
 have hqt:(a.slotAt k).queue.toNat=n:=by rw[hs.queue];exact y1o n
 have hm:∀(j:Nat) (s:Slot),a.slots[j]? =az s->∃s',(a.less k q).slots[j]? =az s'/\s'.used=s.used/\s'.n=s.n/\s'.queue=s.queue/\s'.ahead=s.ahead/\s'.back=s.back:=by
  intro j s hj;by_cases e:k=j
  ·subst e;exact⟨_,sO hj,rfl,rfl,rfl,rfl,rfl⟩
  ·exact⟨s,by rw[show(a.less k q).slots=a.slots.modify k _ from rfl,g8 e];exact hj,rfl,rfl,rfl,rfl,rfl⟩
 have hsl:(a.less k q).slots.length=250:=by simpa[Arena.less]using h.len
 have hqs:(a.less k q).queues=a.queues.modify n λx=>{x with total:=bo.wrap (x.total-q)}:=by rw[Arena.less,hqt]
 have hmu:(a.less k q).slots.map (·.used)=a.slots.map (·.used):=eU (g:=λs:Slot=>s.used) (f:=λs:Slot=>{s with qty:=s.qty-q}) (λ_=>rfl) _ _
 refine⟨hsl,by rw[hqs];simpa using h.ql,λm l' hm'=> ?_,λm l' hm'=> ?_,h.nd,λj s hj hu=> ?_,by rw[hmu];exact h.free⟩
 ·by_cases e:n=m
  ·subst e;rw[hl]at hm';cases hm';rw[hqs,sO (h.q n l hl)];have hsum:=h.sum hl;have e2:(a.less k q).qsum l=a.qsum l-q:=by
    rw[Arena.qsum,Arena.qsum,z4v (k:=k) (f:=λk=>(a.slotAt k).qty) (h.nd n l hl) hk]
    ·rw[zDc a k q k hkl,y1a rfl];dsimp only;omega
    ·intro j _ hj;rw[zDc a k q j hkl,y0y hj]
   have h1:=hs.q2;rw[e2];dsimp only;rw[w64 (by omega)]
  ·rw[hqs,g8 e,h.q m l' hm',b6];intro j hj;have:j≠k:=λc=>e (h.one hl hm' hk (c▸hj))
   rw[zDc a k q j hkl,y0y this]
 ·refine zNo (λj hj s hs'=> ?_) (h.sg m l' hm');obtain⟨s',q0,q1,q2,q3,q4,q5⟩:=hm j s hs';refine⟨s',q0,q1,q2,q3,q4,q5,?_⟩;have e:=xE q0;rw[<- e,zDc a k q j hkl];obtain⟨_,⟨_,_,h2⟩,h3⟩:=h.mem hm' hj;have:=h2.q1;have:=h2.q2;split
  ·rename_i c;subst c;dsimp only;omega
  ·omega
 ·have hlt:=(y1c.1 hj).1;rw[hsl,<- h.len]at hlt;obtain⟨s0,h0⟩:=yE hlt;obtain⟨s',q0,q1,_⟩:=hm j s0 h0;rw[hj]at q0;cases q0;exact h.us j s0 h0 (by rw[<- q1];exact hu)
def Arena.Wf0.drop {a:Arena} {Q:List (List Nat)} (h:a.Wf0 Q) {n k:Nat} {l1 l2:List Nat} (hl:Q[n]? =az (l1++k::l2)) (h0:(a.slotAt k).qty=0):
 (a.dropF k).Wf0 (Q.set n (l1++l2))/\(∀j,j≠k->((a.dropF k).slotAt j).ent=(a.slotAt j).ent/\((a.dropF k).slotAt j).used=(a.slotAt j).used/\((a.dropF k).slotAt j).qty=(a.slotAt j).qty)/\(a.dropF k).slotAt k=slot0/\(a.dropF k).free=a.free+1:=by
 have hkm:k∈l1++k::l2:=by simp
 have hnQ:=(y1c.1 hl).1;obtain⟨hk2,_,hk1⟩:=h.mem hl hkm;have hlen:=h.len;have hkl:k<a.slots.length:=by omega
 have hsg:=h.sg n _ hl;have hnd:=h.nd n _ hl;have hd:=y3g.1 hnd;have hd2:=y3l.1 hd.2.1;have k1:k∉l1:=λhk=>hd.2.2 k hk k y1f rfl
 have k2:k∉l2:=hd2.1;rw[lC]at hsg;obtain⟨g1,⟨s,hs1,hs⟩,g2⟩:=hsg;have es:=xE hs1;have eqn:(a.queues.getD s.queue.toNat aH)=⟨wL (l1++k::l2) (-1),qY (l1++k::l2) (-1),a.qsum (l1++k::l2),(l1++k::l2).length⟩:=by
  rw[hs.queue,y1o];exact zV (h.q n _ hl)
 have hfree:=h.free;have hcl:=z3l (sl:=a.slots);have hsh:=h.short hl;obtain⟨sl1,hsl1⟩:∃sl1,sl1=if qY l1 (-1)= -1 then a.slots else a.slots.modify (qY l1 (-1)).toNat λx=>{x with back:=wL l2 (-1)}:=⟨_,rfl⟩
 obtain⟨sl2,hsl2⟩:∃sl2,sl2=if wL l2 (-1)= -1 then sl1 else sl1.modify (wL l2 (-1)).toNat λx=>{x with ahead:=qY l1 (-1)}:=⟨_,rfl⟩
 have hS:(a.dropF k).slots=sl2.set k slot0:=by
  simp only[Arena.dropF,es,hs.ahead,hs.back];rw[hsl2,hsl1]
 have hQs:(a.dropF k).queues=a.queues.set n ⟨wL (l1++l2) (-1),qY (l1++l2) (-1),a.qsum (l1++l2),(l1++l2).length⟩:=by
  simp only[Arena.dropF,es,eqn,hs.ahead,hs.back];rw[hs.queue,y1o];have el:(l1++k::l2).length=(l1++l2).length+1:=by simp;omega
  have eq:a.qsum (l1++k::l2)=a.qsum (l1++l2):=by
   rw[Arena.qsum,Arena.qsum,y1i,y6t,y1i,y6t,y1m,y2o,h0];omega
  rw[el]at hsh ⊢;rw[w64 (by omega),eq];congr 2
  ·cases l1 with
   |nil=>simp[qY,zGg,wL]
   |cons y ys=>
    rw[y0y (by rw[nO];simp)];rfl
  ·rcases jS l2 with e|⟨x,j,e,e2⟩
   ·subst e;simp[wL,cV,qY]
   ·have:l2≠[]:=by rw[e];simp
    rw[y0y (λc=>this ((zPz l2).1 c)),cV,cV,qY,e2,e2]
  ·simp
 have hF:(a.dropF k).free=a.free+1:=by
  simp only[Arena.dropF];rw[w64 (by omega)]
 have hc1:qY l1 (-1)= -1\/∃(y:List Nat) (j:Nat),l1=y++[j]/\qY l1 (-1)=(j:Int):=by
  rcases jS l1 with e|⟨y,j,e,e2⟩
  ·exact .inl ((nO l1).2 e)
  ·exact .inr ⟨y,j,e,e2 _⟩
 have hc2:wL l2 (-1)= -1\/∃(y:List Nat) (j:Nat),l2=j::y/\wL l2 (-1)=(j:Int):=by
  cases l2 with
  |nil=>exact .inl rfl
  |cons j y=>exact .inr ⟨y,j,rfl,rfl⟩
 have hoth:∀j,j∉l1->j∉l2->j≠k->(a.dropF k).slots[j]? =a.slots[j]? :=by
  intro j h1 h2 h3;rw[hS,wQ (λe=>h3 e.symm),hsl2];have e1:sl1[j]? =a.slots[j]? :=by
   rw[hsl1];split
   ·rfl
   ·rcases hc1 with e|⟨y,i,e,e2⟩
    ·contradiction
    ·rw[g8];rw[e2,y1o];rintro rfl;exact h1 (by rw[e];simp)
  split
  ·exact e1
  ·rcases hc2 with e|⟨y,i,e,e2⟩
   ·contradiction
   ·rw[g8,e1];rw[e2,y1o];rintro rfl;exact h2 (by rw[e];simp)
 have hlike:∀j,j≠k->((a.dropF k).slotAt j).ent=(a.slotAt j).ent/\((a.dropF k).slotAt j).used=(a.slotAt j).used/\((a.dropF k).slotAt j).qty=(a.slotAt j).qty:=by
  intro j hj;have m1:∀(sl:List Slot) (i:Nat) (b:Int),((sl.modify i λx=>{x with back:=b}).getD j slot0).ent=(sl.getD j slot0).ent/\((sl.modify i λx=>{x with back:=b}).getD j slot0).used=(sl.getD j slot0).used/\((sl.modify i λx=>{x with back:=b}).getD j slot0).qty=(sl.getD j slot0).qty:=by
   intro sl i b;rw[y1h,y1h,ae];cases sl[j]? with
   |none=>exact⟨rfl,rfl,rfl⟩
   |some s=>by_cases e:i=j<;>simp[e,Slot.ent]
  have m2:∀(sl:List Slot) (i:Nat) (b:Int),((sl.modify i λx=>{x with ahead:=b}).getD j slot0).ent=(sl.getD j slot0).ent/\((sl.modify i λx=>{x with ahead:=b}).getD j slot0).used=(sl.getD j slot0).used/\((sl.modify i λx=>{x with ahead:=b}).getD j slot0).qty=(sl.getD j slot0).qty:=by
   intro sl i b;rw[y1h,y1h,ae];cases sl[j]? with
   |none=>exact⟨rfl,rfl,rfl⟩
   |some s=>by_cases e:i=j<;>simp[e,Slot.ent]
  have e0:(a.dropF k).slotAt j=sl2.getD j slot0:=by
   rw[Arena.slotAt,hS,y1h,wQ (λe=>hj e.symm),y1h]
  have e1:(sl1.getD j slot0).ent=(a.slotAt j).ent/\(sl1.getD j slot0).used=(a.slotAt j).used/\(sl1.getD j slot0).qty=(a.slotAt j).qty:=by
   rw[hsl1];split
   ·exact⟨rfl,rfl,rfl⟩
   ·exact m1 _ _ _
  have e2:(sl2.getD j slot0).ent=(sl1.getD j slot0).ent/\(sl2.getD j slot0).used=(sl1.getD j slot0).used/\(sl2.getD j slot0).qty=(sl1.getD j slot0).qty:=by
   rw[hsl2];split
   ·exact⟨rfl,rfl,rfl⟩
   ·exact m2 _ _ _
  rw[e0];exact⟨e2.1.trans e1.1,e2.2.1.trans e1.2.1,e2.2.2.trans e1.2.2⟩
 have hl1:sl1.length=250:=by rw[hsl1];split<;>simp[hlen]
 have hl2:sl2.length=250:=by rw[hsl2];split<;>simp[hl1]
 have hself:(a.dropF k).slots[k]? =az slot0:=by rw[hS];exact gJ oM
 have hsgn:seg (a.dropF k).slots n (-1) (l1++l2) (-1):=by
  rw[hS,lC];constructor
  ·--the part ahead
   refine wD (sl:=sl2) (λj hj=>wQ (λe=>k1 (e▸hj))) ?_;have f1:seg sl1 n (-1) l1 (wL l2 (-1)):=by
    rcases jS l1 with e|⟨y,j,e,e2⟩
    ·subst e;trivial
    ·rw[hsl1,y0y (by rw[e2];omega),e2,y1o];subst e;have hd3:=y3g.1 hd.1;exact zVw _ (λhj=>hd3.2.2 j hj j y1f rfl) g1
   refine wD (λj hj=> ?_) f1;rw[hsl2];split
   ·rfl
   ·rcases hc2 with e|⟨y,i,e,e2⟩
    ·contradiction
    ·refine g8 ?_;rw[e2,y1o];rintro rfl;exact hd.2.2 i hj i (y1g _ (by rw[e];simp)) rfl
  ·--the part behind
   refine wD (sl:=sl2) (λj hj=>wQ (λe=>k2 (e▸hj))) ?_;have f1:seg sl1 n k l2 (-1):=by
    refine wD (λj hj=> ?_) g2;rw[hsl1];split
    ·rfl
    ·rcases hc1 with e|⟨y,i,e,e2⟩
     ·contradiction
     ·refine g8 ?_;rw[e2,y1o];rintro rfl;exact hd.2.2 i (by rw[e];simp) i (y1g _ hj) rfl
   rcases hc2 with e|⟨y,j,e,e2⟩
   ·rw[(zPz l2).1 e];trivial
   ·rw[hsl2,y0y (by rw[e2];omega),e2,y1o];rw[e]at f1 hd2 ⊢;exact z7y _ (y3l.1 hd2.2).1 f1
 refine⟨⟨?_,?_,?_,?_,?_,?_,?_⟩,hlike,xE hself,hF⟩
 ·rw[hS,y2d];exact hl2
 ·rw[hQs];simp[h.ql]
 ·intro m l' hm;rcases cK hm with⟨rfl,rfl⟩|⟨e,hm⟩
  ·rw[hQs,gJ (by rw[h.ql];exact hnQ)];congr 2;refine(b6 λj hj=>(hlike j λe=> ?_).2.2).symm;subst e;rcases y2f.1 hj with hj|hj
   ·exact k1 hj
   ·exact k2 hj
  ·rw[hQs,wQ (λc=>e c.symm),h.q m l' hm];congr 2;refine(b6 λj hj=>(hlike j λe2=> ?_).2.2).symm;subst e2;exact e (h.one hm hl hj hkm)
 ·intro m l' hm;rcases cK hm with⟨rfl,rfl⟩|⟨e,hm⟩
  ·exact hsgn
  ·refine wD (λj hj=>hoth j ?_ ?_ ?_) (h.sg m l' hm)
   ·exactλc=>e (h.one hm hl hj (y2t _ c))
   ·exactλc=>e (h.one hm hl hj (y3a _ (y1g _ c)))
   ·rintro rfl;exact e (h.one hm hl hj hkm)
 ·intro m l' hm;rcases cK hm with⟨rfl,rfl⟩|⟨e,hm⟩
  ·refine y3g.2 ⟨hd.1,hd2.2,λi hi j hj=>hd.2.2 i hi j (y1g _ hj)⟩
  ·exact h.nd m l' hm
 ·intro j s' hj hu;have hjk:j≠k:=by
   rintro rfl;rw[hself]at hj;cases hj;cases hu
  have hu2:(a.slotAt j).used=ax:=by rw[<- (hlike j hjk).2.1,xE hj];exact hu
  have hjl:j<a.slots.length:=by
   have:=(y1c.1 hj).1;rw[hS,y2d]at this;omega
  obtain⟨s0,hs0⟩:=yE hjl;rw[xE hs0]at hu2;obtain⟨m,l',hm,hjm⟩:=h.us j s0 hs0 hu2;by_cases em:m=n
  ·subst em;rw[hl]at hm;cases hm;refine⟨m,_,gJ hnQ,?_⟩;rcases y2f.1 hjm with hj|hj
   ·exact y2t _ hj
   ·rcases y1r.1 hj with e|hj
    ·exact absurd e hjk
    ·exact y3a _ hj
  ·exact⟨m,l',by rw[wQ (λc=>em c.symm)];exact hm,hjm⟩
 ·have hmu:(a.dropF k).slots.map (·.used)=(a.slots.set k slot0).map (·.used):=by
   have e1:sl2.map (·.used)=a.slots.map (·.used):=by
    have f2:sl2.map (·.used)=sl1.map (·.used):=by
     rw[hsl2];split
     ·rfl
     ·exact eU (g:=λs:Slot=>s.used) (f:=λs:Slot=>{s with ahead:=qY l1 (-1)}) (λ_=>rfl) _ _
    have f1:sl1.map (·.used)=a.slots.map (·.used):=by
     rw[hsl1];split
     ·rfl
     ·exact eU (g:=λs:Slot=>s.used) (f:=λs:Slot=>{s with back:=wL l2 (-1)}) (λ_=>rfl) _ _
    rw[f2,f1]
   rw[hS,List.map_set,e1,List.map_set]
  have:=zKp (x:=slot0) hs1;rw[hs.used,y1a rfl,show slot0.used=ay from rfl,y0y (by decide)]at this;rw[hmu,hF,hfree];omega
def Arena.Wf.take {a:Arena} {Q:List (List Nat)} (h:a.Wf Q) {n k:Nat} {l:List Nat} (hl:Q[n]? =az l) (hk:k∈l) {q:Int} (hq:1<=q/\q<=(a.slotAt k).qty):
 (a.takeF k q).2=0/\(∀j,j≠k->((a.takeF k q).1.slotAt j).ent=(a.slotAt j).ent/\((a.takeF k q).1.slotAt j).used=(a.slotAt j).used)/\
   (if(a.slotAt k).qty=q then(a.takeF k q).1.Wf (Q.set n (l.erase k))/\(a.takeF k q).1.slotAt k=slot0/\(a.takeF k q).1.free=a.free+1
    else(a.takeF k q).1.Wf Q/\(a.takeF k q).1.slotAt k={a.slotAt k with qty:=(a.slotAt k).qty-q}/\(a.takeF k q).1.free=a.free):=by
 obtain⟨hk2,⟨p,t,hs⟩,hk1⟩:=h.toWf0.mem hl hk;have hkl:k<a.slots.length:=by rw[h.len];exact hk2
 have hu:a.usedAt k=ax:=by
  simp only[Arena.usedAt,y1l,y2v];refine⟨oM,oM,?_⟩;rw[y1o];exact hs.used
 have hless:=h.toWf0.less hl hk (q:=q) oM;have hat:=zDc a k q;rw[Arena.takeF,y0y (by rw[hu];decide),y1o,y0y (by omega)];by_cases e:(a.slotAt k).qty=q
 ·rw[y1a e,y1a e];obtain⟨l1,l2,rfl⟩:=List.append_of_mem hk;have hnd:=h.nd n _ hl;have hd:=y3g.1 hnd;have k1:k∉l1:=λhk=>hd.2.2 k hk k y1f rfl
  obtain⟨d1,d2,d3,d4⟩:=hless.drop hl (by rw[hat k hkl,y1a rfl];dsimp only;omega);have ee:(l1++k::l2).erase k=l1++l2:=by rw[List.erase_append_right _ k1,List.erase_cons_head]
  refine⟨rfl,λj hj=> ?_,?_,d3,d4⟩
  ·have:=d2 j hj;rw[hat j hkl,y0y hj]at this;exact⟨this.1,this.2.1⟩
  ·rw[ee];refine⟨d1,λm l' hm j hj=> ?_⟩;have hj2:j≠k/\∃l'',Q[m]? =az l''/\j∈l'':=by
    have hd2:=y3l.1 hd.2.1;rcases cK hm with⟨rfl,rfl⟩|⟨e3,hm⟩
    ·refine⟨?_,_,hl,?_⟩
     ·rintro rfl;rcases y2f.1 hj with hj|hj
      ·exact k1 hj
      ·exact hd2.1 hj
     ·rcases y2f.1 hj with hj|hj
      ·exact y2t _ hj
      ·exact y3a _ (y1g _ hj)
    ·refine⟨?_,_,hm,hj⟩;rintro rfl;exact e3 (h.toWf0.one hm hl hj hk)
   obtain⟨hj3,l'',hm2,hj4⟩:=hj2;have:=(d2 j hj3).2.2;rw[hat j hkl,y0y hj3]at this;dsimp only;rw[this];exact h.pos m l'' hm2 j hj4
 ·rw[y0y e,y0y e];refine⟨rfl,λj hj=> ?_,⟨hless,λm l' hm j hj=> ?_⟩,?_,rfl⟩
  ·dsimp only;rw[hat j hkl,y0y hj];exact⟨rfl,rfl⟩
  ·dsimp only;rw[hat j hkl];split
   ·rename_i c;subst c;dsimp only;omega
   ·exact h.pos m l' hm j hj
  ·dsimp only;rw[hat k hkl,y1a rfl]
def y7 {α β:Type} {f g:α->List β}:∀{l:List α},(∀x∈l,f x=g x)->l.flatMap f=l.flatMap g
 |[],_=>rfl
 |x::l,h=>by rw[y2q,y2q,h x y1f,y7 λy hy=>h y (y1g _ hy)]
def tL {α β γ:Type} {f:α->List β} {g:β->γ}:∀(l:List α),(l.flatMap f).map g=l.flatMap λx=>(f x).map g
 |[]=>rfl
 |x::l=>by rw[y2q,y2q,y1i,tL l]
def z0c {α β:Type} {f:α->List β}:∀{l:List α},(∀x∈l,f x≠[])->l.length<=(l.flatMap f).length
 |[],_=>y1u 0
 |x::l,h=>by
  have:=z0c (l:=l) λy hy=>h y (y1g _ hy)
  have:=List.length_pos_iff.2 (h x y1f);rw[y2q,y0x,y1d];omega
def zFn {α:Type} [DecidableEq α]:∀{l m:List α},l.Nodup->(∀x∈l,x∈m)->l.length<=m.length
 |[],_,_,_=>y2a _
 |x::l,m,h,hs=>by
  have hd:=y3l.1 h;have hx:=hs x y1f;have:=zFn (l:=l) (m:=m.erase x) hd.2 λy hy=>by
   have hne:y≠x:=by rintro rfl;exact hd.1 hy
   exact(List.mem_erase_of_ne hne).2 (hs y (y1g _ hy))
  rw[ag hx]at this;have:=List.length_pos_of_mem hx;rw[y1d];omega
def z8t {l:List Int} (h:l.Nodup) (hr:∀x∈l,0<=x/\x<l.length) {n:Nat} (hn:n<l.length):(n:Int)∈l:=by
 apply Classical.byContradiction;intro hx;have hnd:((n:Int)::l).Nodup:=y3l.2 ⟨hx,h⟩;have:=zFn (m:=(ao l.length).map λk:Nat=>(k:Int)) hnd λy hy=>by
  rw[y2m];rcases y1r.1 hy with rfl|hy
  ·exact⟨n,y4f.2 hn,rfl⟩
  ·have:=hr y hy;exact⟨y.toNat,y4f.2 oM,oM⟩
 simp at this;omega
def zIq {α β:Type} {l:List (α×β)} (h:(l.map (·.1)).Nodup) {k:α} {x y:β} (hx:(k,x)∈l) (hy:(k,y)∈l):x=y:=by
 induction l with
 |nil=>cases hx
 |cons p l ih=>
  rw[y1m,y3l]at h;rcases y1r.1 hx with ex|hx<;>rcases y1r.1 hy with ey|hy
  ·rw[<- ex]at ey;exact(Prod.mk.inj ey).2.symm
  ·exact absurd (y2c (f:=(·.1)) hy) (by rw[<- ex]at h;exact h.1)
  ·exact absurd (y2c (f:=(·.1)) hx) (by rw[<- ey]at h;exact h.1)
  ·exact ih h.2 hx hy
def sY:∀{l:List (Int×Place)} {k:Int} {x:Place},pget l k=az x->(k,x)∈l
 |[],k,x,h=>by cases h
 |p::l,k,x,h=>by
  rw[pget,y6s]at h;by_cases e:p.1=k
  ·rw[y1v e]at h;simp only[y3b,Option.some.injEq]at h;subst h;subst e;exact y1f
  ·rw[y1s e]at h;exact y1g _ (sY h)
def zEt {l:List (Int×Place)} {k:Int} (h:pget l k=ba):k∉l.map (·.1):=by
 intro hk;obtain⟨⟨k',x⟩,hx,rfl⟩:=y2m.1 hk;rw[pget,Option.map_eq_none_iff,List.find?_eq_none]at h;have:=h _ hx;simp at this
def zWe:∀{l:List (Int×Place)} {k:Int} {x:Place},k∉l.map (·.1)->n9 k x l=l++[(k,x)]
 |[],k,x,_=>rfl
 |p::l,k,x,h=>by
  rw[y1m,y1r,not_or]at h;rw[n9,y0y h.1,zWe h.2];rfl
def y6 (Q:List (List Nat)) (r:xC):List Nat:=Q.getD r.queue.toNat []
def yBg (s p:Int) (e:Ent):zG:=⟨e.id,s,p,e.qty,e.top⟩
def j9 (a:Arena) (s p:Int) (k:Nat):zG:=yBg s p (a.slotAt k).ent
def Book.rOrds (b:Book) (Q:List (List Nat)) (s:Int) (r:xC):List zG:=(y6 Q r).map (j9 b.a s r.price)
def Book.sideL (b:Book) (Q:List (List Nat)) (s:Int):List zG:=(b.rungs s).flatMap (b.rOrds Q s)
def Book.flat (b:Book) (Q:List (List Nat)):List zG:=b.sideL Q 1++b.sideL Q 2
def wN (a:Arena) (s p:Int) (k:Nat):Int×Place:=((a.slotAt k).id,⟨s,p,k⟩)
def Book.plcs (b:Book) (Q:List (List Nat)) (s:Int):List (Int×Place):=(b.rungs s).flatMap λr=>(y6 Q r).map (wN b.a s r.price)
def Book.qs (b:Book):List Int:=b.buys.map (·.queue)++b.sells.map (·.queue)++b.spare
structure Book.Core (b:Book) (Q:List (List Nat)) (hole:Int):Prop where
 wf:b.a.Wf Q
 srt:∀s,s=1\/s=2->(b.rungs s).Pairwise λr r'=>btr s r.price r'.price=ax
 rng:∀q∈b.qs,0<=q/\q<Q.length
 nd:b.qs.Nodup
 ql:b.qs.length=Q.length
 ne:∀s,s=1\/s=2->∀r∈b.rungs s,r.queue≠hole->y6 Q r≠[]
 sp:∀q∈b.spare,Q.getD q.toNat []=[]
 at_:b.at_.Perm (b.plcs Q 1++b.plcs Q 2)
 ids:((b.flat Q).map (·.id)).Nodup
 qb:Q.length<=250
structure Book.Tops (b:Book) (L:List zG):Prop where
 fl:∀o∈L,o.top=(b.hasF o.side && decide (o.id=b.topI o.side))
 th:∀s,s=1\/s=2->b.hasF s=ax->∃o∈L,o.side=s/\o.id=b.topI s
structure Book.Rep (b:Book) (L:List zG):Prop where
 ex:∃Q,b.Core Q (-1)/\b.Tops L/\L=b.flat Q
def bC (b:Book) (Q:List (List Nat)) (s:Int):(b.plcs Q s).map (·.1)=(b.sideL Q s).map (·.id):=by
 rw[Book.plcs,Book.sideL,tL,tL];refine y7 λr _=> ?_
 rw[Book.rOrds,y3j,y3j];rfl
def Book.Core.keysP {b:Book} {Q:List (List Nat)} {h:Int} (c:b.Core Q h):(b.at_.map (·.1)).Perm ((b.flat Q).map (·.id)):=by
 have:=c.at_.map (·.1)
 rw[y1i,bC,bC,<- y1i]at this;exact this
def Book.Core.keys {b:Book} {Q:List (List Nat)} {h:Int} (c:b.Core Q h):(b.at_.map (·.1)).Nodup:=c.keysP.nodup_iff.2 c.ids
def Book.Core.len {b:Book} {Q:List (List Nat)} {h:Int} (c:b.Core Q h):b.at_.length=(b.flat Q).length:=by
 have:=c.keysP.length_eq;simpa using this
def Book.Core.plc {b:Book} {Q:List (List Nat)} {h:Int} (c:b.Core Q h) {s:Int} (hs:s=1\/s=2) {r:xC} (hr:r∈b.rungs s) {k:Nat} (hk:k∈y6 Q r):((b.a.slotAt k).id,(⟨s,r.price,k⟩:Place))∈b.at_:=by
 refine c.at_.mem_iff.2 ?_;have hp:wN b.a s r.price k∈b.plcs Q s:=y3t.2 ⟨r,hr,y2c hk⟩;rcases hs with rfl|rfl
 ·exact y2t _ hp
 ·exact y3a _ hp
def Book.Core.plcI {b:Book} {Q:List (List Nat)} {h:Int} (c:b.Core Q h) {id:Int} {x:Place} (hx:(id,x)∈b.at_):∃(k:Nat) (r:xC),(x.side=1\/x.side=2)/\r∈b.rungs x.side/\k∈y6 Q r/\x=⟨x.side,r.price,k⟩/\(b.a.slotAt k).id=id:=by
 have:=c.at_.mem_iff.1 hx;rcases y2f.1 this with hp|hp
 all_goals
  obtain⟨r,hr,hp⟩:=y3t.1 hp;obtain⟨k,hk,e⟩:=y2m.1 hp;simp only[wN,Prod.mk.injEq]at e;obtain⟨e1,rfl⟩:=e;exact⟨k,r,by simp,hr,hk,rfl,e1⟩
def zXs {Q:List (List Nat)} {r:xC} (h:0<=r.queue/\r.queue<Q.length):Q[r.queue.toNat]? =az (y6 Q r):=by
 obtain⟨l,hl⟩:=yE (l:=Q) (i:=r.queue.toNat) oM;rw[y6,zV hl,hl]
def vY {b:Book} {s:Int} (hs:s=1\/s=2) {r:xC} (hr:r∈b.rungs s):r.queue∈b.qs:=by
 rcases hs with rfl|rfl
 ·exact y2t _ (y2t _ (y2c (f:=(·.queue)) hr))
 ·exact y2t _ (y3a _ (y2c (f:=(·.queue)) hr))
def Book.Core.get {b:Book} {Q:List (List Nat)} {h:Int} (c:b.Core Q h) {s:Int} (hs:s=1\/s=2) {r:xC} (hr:r∈b.rungs s):Q[r.queue.toNat]? =az (y6 Q r):=zXs (c.rng _ (vY hs hr))
def clr (L:List zG) (s:Int):List zG:=L.map λo=>if o.side=s then{o with top:=ay}else o
def eR (s x:Int):btr s x x=ay:=by
 rw[btr];split<;>exact y1s oM
def Book.Core.flag {b:Book} {Q:List (List Nat)} {h:Int} (c:b.Core Q h) {a':Arena} (hw:a'.Wf Q) (hi:∀k,(a'.slotAt k).id=(b.a.slotAt k).id):({b with a:=a'}:Book).Core Q h:=by
 have e1:∀s,({b with a:=a'}:Book).plcs Q s=b.plcs Q s:=by
  intro s;refine y7 λr _=>y2g λk _=> ?_
  simp only[wN,hi]
 have e2:((({b with a:=a'}:Book).flat Q).map (·.id))=(b.flat Q).map (·.id):=by
  rw[Book.flat,Book.flat,y1i,y1i,<- bC,<- bC,<- bC,<- bC,e1,e1]
 exact⟨hw,c.srt,c.rng,c.nd,c.ql,c.ne,c.sp,by rw[e1,e1];exact c.at_,by rw[e2];exact c.ids,c.qb⟩
def yIb (a:Arena) (n:Int) (t:Bool) (k:Nat):((a.topF n t).slotAt k).id=(a.slotAt k).id:=by
 rw[zUb];split<;>rfl
def Book.Core.untop {b:Book} {Q:List (List Nat)} {h:Int} (c:b.Core Q h) (s:Int):(b.untop s).Wf Q/\∀k,((b.untop s).slotAt k).id=(b.a.slotAt k).id:=by
 rw[Book.untop]
 repeat' split
 all_goals first|exact⟨c.wf,λ_=>rfl⟩|exact⟨c.wf.top _ _,λk=>yIb _ _ _ k⟩
def Book.Core.untop_flat {b:Book} {Q:List (List Nat)} {h:Int} (c:b.Core Q h) (ht:b.Tops (b.flat Q)) {s:Int} (hs:s=1\/s=2):({b with a:=b.untop s}:Book).flat Q=clr (b.flat Q) s:=by
 have hfl:∀{s':Int} (hs':s'=1\/s'=2) {r:xC} (hr:r∈b.rungs s') {k:Nat} (hk:k∈y6 Q r),(b.a.slotAt k).top=(b.hasF s' && decide ((b.a.slotAt k).id=b.topI s')):=by
  intro s' hs' r hr k hk;have hm:j9 b.a s' r.price k∈b.flat Q:=by
   have:j9 b.a s' r.price k∈b.sideL Q s':=y3t.2 ⟨r,hr,y2c hk⟩;rcases hs' with rfl|rfl
   ·exact y2t _ this
   ·exact y3a _ this
  exact ht.fl _ hm
 have key:∀{s':Int} (hs':s'=1\/s'=2) {r:xC} (hr:r∈b.rungs s') {k:Nat} (hk:k∈y6 Q r),((b.untop s).slotAt k).ent=if s'=s then{(b.a.slotAt k).ent with top:=ay}else(b.a.slotAt k).ent:=by
  intro s' hs' r hr k hk;have hplc:=c.plc hs' hr hk;have htop:=hfl hs' hr hk;have hno:(b.a.slotAt k).top=ay->(b.a.slotAt k).ent=if s'=s then{(b.a.slotAt k).ent with top:=ay}else(b.a.slotAt k).ent:=by
   intro e;split
   ·rw[Slot.ent,e]
   ·rfl
  rw[Book.untop];by_cases hh:b.hasF s=ax
  ·rw[y1a hh];cases hg:pget b.at_ (b.topI s)with
   |none=>
    dsimp only;by_cases e:s'=s
    ·subst e;refine hno ?_;rw[htop,hh,y4b];refine y1s λe2=> ?_
     rw[<- e2]at hg;exact zEt hg (y2c (f:=(·.1)) hplc)
    ·rw[y0y e]
   |some o=>
    dsimp only;obtain⟨k',r',hs2,hr2,hk2,ho,hid⟩:=c.plcI (sY hg);by_cases es:o.side=s
    ·rw[y1a es,zUb];have hos:o.slot=(k':Int):=by rw[ho]
     by_cases ek:k=k'
     ·subst ek;have hu:b.a.usedAt o.slot=ax:=by
       obtain⟨_,⟨_,_,h2⟩,h3⟩:=c.wf.toWf0.mem (c.get hs' hr) hk;have hlt:=(y1c.1 h3).1;simp only[Arena.usedAt,y1l,y2v,hos,y1o];exact⟨oM,oM,h2.used⟩
      rw[y1a ⟨hu,by rw[hos];rfl⟩];have:=c.plc hs2 hr2 hk2;have e3:=zIq c.keys hplc this;have e4:s'=s:=by
       have:=congrArg Place.side e3;dsimp only at this;rw[this,es]
      rw[y1a e4];rfl
     ·rw[y0y (λe=>ek (by have:=e.2;rw[hos]at this;simpa using this))];by_cases e:s'=s
      ·subst e;refine hno ?_;rw[htop,hh,y4b];refine y1s λe2=>ek ?_
       have hp2:=c.plc hs2 hr2 hk2;rw[hid,<- e2]at hp2;have e3:=zIq c.keys hplc hp2;have:=congrArg Place.slot e3;dsimp only at this;omega
      ·rw[y0y e]
    ·rw[y0y es];by_cases e:s'=s
     ·subst e;refine hno ?_;rw[htop,hh,y4b];refine y1s λe2=>es ?_
      have hp2:=sY hg;rw[<- e2]at hp2;have e3:=zIq c.keys hplc hp2;rw[<- e3]
     ·rw[y0y e]
  ·rw[y0y hh];by_cases e:s'=s
   ·subst e;refine hno ?_;have:b.hasF s'=ay:=by simpa using hh
    rw[htop,this,y4g]
   ·rw[y0y e]
 have side:∀s',s'=1\/s'=2->({b with a:=b.untop s}:Book).sideL Q s'=clr (b.sideL Q s') s:=by
  intro s' hs';rw[clr,Book.sideL,Book.sideL,tL];refine y7 λr hr=> ?_
  rw[Book.rOrds,Book.rOrds,y3j];refine y2g λk hk=> ?_
  simp only[j9,ce,key hs' hr hk,yBg];by_cases e:s'=s
  ·rw[y1a e];exact(y1a e).symm
  ·rw[y0y e];exact(y0y e).symm
 rw[Book.flat,side 1 (.inl rfl),side 2 (.inr rfl),Book.flat,clr,clr,clr,y1i]
def before (s p:Int) (o:zG):Bool:=decide (o.side<s)||(decide (o.side=s) && !btr s p o.price)
def uT (L:List zG) (s p:Int):Bool:=L.all λo=> !decide (o.side=s)||btr s p o.price
def zSv (L:List zG) (s id p q:Int):List zG:=
 let L1:=if uT L s p=ax then clr L s else L
 L1.takeWhile (before s p)++⟨id,s,p,q,uT L s p⟩::L1.dropWhile (before s p)
def yBu {α:Type} {f:α->Bool}:∀{A B:List α},(∀x∈A,f x=ax)->(∀x∈B,f x=ay)->(A++B).takeWhile f=A/\(A++B).dropWhile f=B
 |[],[],_,_=>⟨rfl,rfl⟩
 |[],b::B,_,h=>by
  have:=h b y1f;simp[this]
 |a::A,B,h,h2=>by
  obtain⟨i1,i2⟩:=yBu (A:=A) (B:=B) (λx hx=>h x (y1g _ hx)) h2;have:=h a y1f;rw[y2p,List.takeWhile_cons,List.dropWhile_cons,this];simp[i1,i2]
def x0 {b:Book} {Q:List (List Nat)} {s:Int} {r:xC} {o:zG} (h:o∈b.rOrds Q s r):o.side=s/\o.price=r.price:=by
 obtain⟨k,_,rfl⟩:=y2m.1 h;exact⟨rfl,rfl⟩
def aE {b:Book} {Q:List (List Nat)} {s:Int} {o:zG} (h:o∈b.sideL Q s):o.side=s/\∃r∈b.rungs s,o∈b.rOrds Q s r/\o.price=r.price:=by
 obtain⟨r,hr,ho⟩:=y3t.1 h;exact⟨(x0 ho).1,r,hr,ho,(x0 ho).2⟩
structure Spl (s p:Int) (R1 R2:List xC):Prop where
 a:∀r∈R1,btr s r.price p=ax
 b:∀r∈R2,btr s p r.price=ax
def zXm {s x y:Int} (h:btr s x y=ax):btr s y x=ay:=by
 rw[btr]at h ⊢;split at h
 ·rename_i e;rw[y1a e];have:=y1y h;exact y1s oM
 ·rename_i e;rw[y0y e];have:=y1y h;exact y1s oM
def zOt {s x y z:Int} (h:btr s x y=ax) (h2:btr s y z=ax):btr s x z=ax:=by
 rw[btr]at h h2 ⊢;split at h
 ·rename_i e;rw[y1a e]at h2 ⊢;have:=y1y h;have:=y1y h2;exact y1v oM
 ·rename_i e;rw[y0y e]at h2 ⊢;have:=y1y h;have:=y1y h2;exact y1v oM
def z7e {s x y:Int} (h:btr s x y=ay) (hne:x≠y):btr s y x=ax:=by
 rw[btr]at h ⊢;split at h
 ·rename_i e;rw[y1a e];have:=y5j h;exact y1v oM
 ·rename_i e;rw[y0y e];have:=y5j h;exact y1v oM
def zAv {s p:Int} {l:List xC} (hs:l.Pairwise λr r'=>btr s r.price r'.price=ax):
 (∀r∈l.take (zY s l p),btr s r.price p=ax)/\
 (if qU s l p=ax then ∃r,l[zY s l p]? =az r/\r.price=p/\∀r'∈l.drop (zY s l p+1),btr s p r'.price=ax
  else ∀r'∈l.drop (zY s l p),btr s p r'.price=ax):=by
 have e1:l.take (zY s l p)=l.takeWhile λr=>btr s r.price p:=by
  rw[zY];have h:=y6u (l₁:=l.takeWhile λr=>btr s r.price p) (l₂:=l.dropWhile λr=>btr s r.price p);rwa [y6m]at h
 have e2:l.drop (zY s l p)=l.dropWhile λr=>btr s r.price p:=by
  have h:=y3s (zY s l p) l;have h2:=y6m (p:=λr:xC=>btr s r.price p) (l:=l);rw[e1]at h;exact List.append_cancel_left (h.trans h2.symm)
 refine⟨λr hr=> ?_,?_⟩
 ·rw[e1]at hr;exact y4h.1 List.all_takeWhile r hr
 have hd:∀r,l[zY s l p]? =az r->btr s r.price p=ay:=by
  intro r hr;have h0:(l.drop (zY s l p))[0]? =az r:=by rw[y3p];exact hr
  rw[e2]at h0;cases hdw:l.dropWhile λr=>btr s r.price p with
  |nil=>rw[hdw]at h0;cases h0
  |cons x y=>
   rw[hdw]at h0;cases h0;have:=List.head?_dropWhile_not (λr:xC=>btr s r.price p) l;rw[hdw]at this;simpa using this
 have hpw:∀r r',l[zY s l p]? =az r->r'∈l.drop (zY s l p+1)->btr s r.price r'.price=ax:=by
  intro r r' hr hr';have hlt:=(y1c.1 hr).1;have:=List.Pairwise.sublist (List.drop_sublist (zY s l p) l) hs;rw[y3f hlt,y4n,(y1c.1 hr).2]at this;exact this.1 r' hr'
 split
 ·rename_i hb;rw[qU]at hb;cases hr:l[zY s l p]? with
  |none=>rw[hr]at hb;cases hb
  |some r=>
   rw[hr]at hb;have hp:r.price=p:=y1y hb;exact⟨r,rfl,hp,λr' hr'=>by rw[<- hp];exact hpw r r' hr hr'⟩
 ·rename_i hb;intro r' hr';by_cases hlt:zY s l p<l.length
  ·obtain⟨r,hr⟩:=yE hlt;rw[qU,hr]at hb;have hp:¬r.price=p:=λe=>hb (y1v e)
   have h1:=z7e (hd r hr) hp;rw[y3f hlt,(y1c.1 hr).2]at hr';rcases y1r.1 hr' with rfl|hr'
   ·exact h1
   ·exact zOt h1 (hpw r r' hr hr')
  ·rw[y4j (by omega)]at hr';cases hr'
def Book.setR (b:Book) (s:Int) (l:List xC):Book:=if s=1 then{b with buys:=l}else{b with sells:=l}
def z5s {b:Book} {s:Int} (hs:s=1\/s=2):∃rest,b.qs.Perm ((b.rungs s).map (·.queue)++rest)/\∀l,(b.setR s l).qs.Perm (l.map (·.queue)++rest):=by
 rcases hs with rfl|rfl
 ·refine⟨b.sells.map (·.queue)++b.spare,?_,λl=> ?_⟩
  ·rw[Book.qs,y1e];exact .refl _
  ·show(l.map (·.queue)++b.sells.map (·.queue)++b.spare).Perm _
   rw[y1e]
 ·refine⟨b.buys.map (·.queue)++b.spare,?_,λl=> ?_⟩
  ·rw[Book.qs];show(b.buys.map (·.queue)++b.sells.map (·.queue)++b.spare).Perm (b.sells.map (·.queue)++(b.buys.map (·.queue)++b.spare))
   rw[<- y1e];exact y3d.append_right _
  ·show(b.buys.map (·.queue)++l.map (·.queue)++b.spare).Perm (l.map (·.queue)++(b.buys.map (·.queue)++b.spare))
   rw[<- y1e];exact y3d.append_right _
structure Queued (b:Book) (Q:List (List Nat)) (s p:Int) (b':Book) (n:Int) (Q':List (List Nat)) (R1 R2:List xC):Prop where
 core:b'.Core Q' n
 rungs:b'.rungs s=R1++⟨p,n⟩::R2
 spl:Spl s p R1 R2
 flat:b'.flat Q'=b.flat Q
 at_:b'.at_=b.at_
 free:b'.a.free=b.a.free
 tops:∀L,b.Tops L->b'.Tops L
 qty:∀x,b'.hasF x=b.hasF x/\b'.topI x=b.topI x
def yAn {α:Type} {l:List α} {x d:α} {n:Nat}:(l++[x]).getD n d=if n=l.length then x else l.getD n d:=by
 rw[y1h,y1h,List.getElem?_append];split
 ·rw[y0y (by omega)]
 ·rename_i h;by_cases e:n=l.length
  ·rw[y1a e,e,y6g];rfl
  ·rw[y0y e,y2i (show([x]:List α).length<=n-l.length by simp;omega),y2i (by omega)]
def Book.Core.add {b:Book} {Q:List (List Nat)} (c:b.Core Q (-1)) {s p n:Int} (hs:s=1\/s=2) {R1 R2:List xC} (hr:b.rungs s=R1++R2) (spl:Spl s p R1 R2) {b':Book} {Q':List (List Nat)}
 (hrs:b'.rungs s=R1++⟨p,n⟩::R2) (hro:∀s',s'≠s->s'=1\/s'=2->b'.rungs s'=b.rungs s') (hat:b'.at_=b.at_) (hw:b'.a.Wf Q') (hsl:b'.a.slots=b.a.slots)
 (hQ:∀k,Q'.getD k []=Q.getD k []) (hn:Q.getD n.toNat []=[]) (hrng:∀q∈b'.qs,0<=q/\q<Q'.length) (hnd:b'.qs.Nodup) (hql:b'.qs.length=Q'.length) (hsp:∀q∈b'.spare,Q.getD q.toNat []=[]) (hqb:Q'.length<=250):
 b'.Core Q' n/\b'.flat Q'=b.flat Q:=by
 have hslQ:∀r,y6 Q' r=y6 Q r:=λr=>hQ _
 have hsa:∀k,b'.a.slotAt k=b.a.slotAt k:=λk=>by rw[Arena.slotAt,Arena.slotAt,hsl]
 have hn':y6 Q ⟨p,n⟩=[]:=hn;have hro':∀s' r,b'.rOrds Q' s' r=b.rOrds Q s' r:=by
  intro s' r;rw[Book.rOrds,Book.rOrds,hslQ];exact y2g λk _=>by rw[j9,j9,hsa]
 have hpo:∀s' (r:xC),(y6 Q' r).map (wN b'.a s' r.price)=(y6 Q r).map (wN b.a s' r.price):=by
  intro s' r;rw[hslQ];exact y2g λk _=>by rw[wN,wN,hsa]
 have hside:∀s',s'=1\/s'=2->b'.sideL Q' s'=b.sideL Q s':=by
  intro s' hs';rw[Book.sideL,Book.sideL];by_cases e:s'=s
  ·subst e;rw[hrs,hr,y2u,y2u,y2q,y7 (λr _=>hro' s' r),y7 (l:=R2) (λr _=>hro' s' r),hro',Book.rOrds,hn',y4q,y3k]
  ·rw[hro s' e hs'];exact y7 λr _=>hro' s' r
 have hplc:∀s',s'=1\/s'=2->b'.plcs Q' s'=b.plcs Q s':=by
  intro s' hs';rw[Book.plcs,Book.plcs];by_cases e:s'=s
  ·subst e;rw[hrs,hr,y2u,y2u,y2q,y7 (λr _=>hpo s' r),y7 (l:=R2) (λr _=>hpo s' r),hpo,hn',y4q,y3k]
  ·rw[hro s' e hs'];exact y7 λr _=>hpo s' r
 have hflat:b'.flat Q'=b.flat Q:=by rw[Book.flat,Book.flat,hside 1 (.inl rfl),hside 2 (.inr rfl)]
 refine⟨⟨hw,λs' hs'=> ?_,hrng,hnd,hql,λs' hs' r hr' hne=> ?_,λq hq=>by rw[hQ];exact hsp q hq,by rw[hat,hplc 1 (.inl rfl),hplc 2 (.inr rfl)];exact c.at_,by rw[hflat];exact c.ids,hqb⟩,hflat⟩
 ·by_cases e:s'=s
  ·subst e;have h0:=c.srt s' hs';rw[hr,af]at h0;rw[hrs,af,y4n];refine⟨h0.1,⟨spl.b,h0.2.1⟩,λx hx y hy=> ?_⟩;rcases y1r.1 hy with rfl|hy
   ·exact spl.a x hx
   ·exact h0.2.2 x hx y hy
  ·rw[hro s' e hs'];exact c.srt s' hs'
 ·rw[hslQ];have hold:∀r∈b.rungs s',y6 Q r≠[]:=λr hr=>c.ne s' hs' r hr λe=>by
   have:=c.rng _ (vY hs' hr);omega
  by_cases e:s'=s
  ·subst e;rw[hrs]at hr';rcases y2f.1 hr' with h|h
   ·exact hold r (by rw[hr];exact y2t _ h)
   ·rcases y1r.1 h with rfl|h
    ·exact absurd rfl hne
    ·exact hold r (by rw[hr];exact y3a _ h)
  ·rw[hro s' e hs']at hr';exact hold r hr'
def zJy (b:Book) {s:Int} (hs:s=1\/s=2) (l:List xC):(b.setR s l).rungs s=l/\∀s',s'≠s->s'=1\/s'=2->(b.setR s l).rungs s'=b.rungs s':=by
 rcases hs with rfl|rfl
 ·exact⟨rfl,λs' h h2=>by rcases h2 with rfl|rfl;exact absurd rfl h;rfl⟩
 ·exact⟨rfl,λs' h h2=>by rcases h2 with rfl|rfl;rfl;exact absurd rfl h⟩
def z6y (b:Book) {s p:Int} (hs:s=1\/s=2):b.queueF s p=if qU s (b.rungs s) p=ax then(b,((b.rungs s).getD (zY s (b.rungs s) p) ⟨0,0⟩).queue)else(({b with a:=b.newQ.2.2,spare:=b.newQ.2.1}:Book).setR s (b.ins s p),b.newQ.1):=by
 rcases hs with rfl|rfl<;>rfl
def Book.Core.queue {b:Book} {Q:List (List Nat)} (c:b.Core Q (-1)) (hl:(b.flat Q).length<250) {s:Int} (hs:s=1\/s=2) (p:Int):∃Q' R1 R2,Queued b Q s p (b.queueF s p).1 (b.queueF s p).2 Q' R1 R2:=by
 have hsp:=zAv (p:=p) (c.srt s hs);rw[z6y b hs];by_cases hb:qU s (b.rungs s) p=ax
 ·rw[y1a hb]at hsp ⊢;obtain⟨h1,r,hr,hp,h2⟩:=hsp;have hlt:=(y1c.1 hr).1;have er:(⟨p,r.queue⟩:xC)=r:=by rw[<- hp]
  have hsplit:b.rungs s=(b.rungs s).take (zY s (b.rungs s) p)++r::(b.rungs s).drop (zY s (b.rungs s) p+1):=by
   conv=>lhs;rw[<- y3s (zY s (b.rungs s) p) (b.rungs s)]
   rw[y3f hlt,(y1c.1 hr).2]
  refine⟨Q,_,_,⟨⟨c.wf,c.srt,c.rng,c.nd,c.ql,λs' hs' r' hr' _=>c.ne s' hs' r' hr' λe=> ?_,c.sp,c.at_,c.ids,c.qb⟩,?_,⟨h1,h2⟩,rfl,rfl,rfl,λ_ h=>h,λ_=>⟨rfl,rfl⟩⟩⟩
  ·have:=c.rng _ (vY hs' hr');omega
  ·dsimp only;rw[zV hr,er];exact hsplit
 ·rw[y0y hb]at hsp ⊢;obtain⟨h1,h2⟩:=hsp;have hr:b.rungs s=(b.rungs s).take (zY s (b.rungs s) p)++(b.rungs s).drop (zY s (b.rungs s) p):=(y3s _ _).symm;obtain⟨g1,g2⟩:=zJy ({b with a:=b.newQ.2.2,spare:=b.newQ.2.1}:Book) hs (b.ins s p);have tops:∀x,((({b with a:=b.newQ.2.2,spare:=b.newQ.2.1}:Book).setR s (b.ins s p)).hasF x=b.hasF x/\(({b with a:=b.newQ.2.2,spare:=b.newQ.2.1}:Book).setR s (b.ins s p)).topI x=b.topI x):=by
   intro x;rcases hs with rfl|rfl<;>exact⟨rfl,rfl⟩
  have hat:(({b with a:=b.newQ.2.2,spare:=b.newQ.2.1}:Book).setR s (b.ins s p)).at_=b.at_:=by rcases hs with rfl|rfl<;>rfl
  have ha:(({b with a:=b.newQ.2.2,spare:=b.newQ.2.1}:Book).setR s (b.ins s p)).a=b.newQ.2.2:=by rcases hs with rfl|rfl<;>rfl
  have hspr:(({b with a:=b.newQ.2.2,spare:=b.newQ.2.1}:Book).setR s (b.ins s p)).spare=b.newQ.2.1:=by rcases hs with rfl|rfl<;>rfl
  obtain⟨rest,q1,q2⟩:=z5s (b:=({b with a:=b.newQ.2.2,spare:=b.newQ.2.1}:Book)) hs;have q2:=q2 (b.ins s p);have hqs:(({b with a:=b.newQ.2.2,spare:=b.newQ.2.1}:Book).setR s (b.ins s p)).qs.Perm (b.newQ.1::({b with a:=b.newQ.2.2,spare:=b.newQ.2.1}:Book).qs):=by
   refine q2.trans (.trans ?_ (q1.symm.cons _));rw[<- y2p];refine cf _ ?_;show((b.ins s p).map (·.queue)).Perm (b.newQ.1::(b.rungs s).map (·.queue))
   conv=>rhs;rw[hr]
   rw[Book.ins,y1i,y1i,y1m];exact y1n
  generalize hB:(({b with a:=b.newQ.2.2,spare:=b.newQ.2.1}:Book).setR s (b.ins s p))=B at*;have fin:∀Q',B.a.Wf Q'->B.a.slots=b.a.slots->B.a.free=b.a.free->(∀k,Q'.getD k []=Q.getD k [])->Q.getD b.newQ.1.toNat []=[]->(∀q∈B.qs,0<=q/\q<Q'.length)->B.qs.Nodup->B.qs.length=Q'.length->(∀q∈B.spare,Q.getD q.toNat []=[])->Q'.length<=250->∃Q' R1 R2,Queued b Q s p B b.newQ.1 Q' R1 R2:=by
   intro Q' w1 w2 w3 w4 w5 w6 w7 w8 w9 w10;obtain⟨u1,u2⟩:=c.add hs hr ⟨h1,h2⟩ (b':=B) (Q':=Q') (n:=b.newQ.1) (by rw[g1];rfl) g2 hat w1 w2 w4 w5 w6 w7 w8 w9 w10;refine⟨Q',_,_,⟨u1,g1.trans rfl,⟨h1,h2⟩,u2,hat,w3,λL h=>⟨λo ho=> ?_,λs' hs' hh=> ?_⟩,tops⟩⟩
   ·rw[(tops o.side).1,(tops o.side).2];exact h.fl o ho
   ·rw[(tops s').1]at hh;rw[(tops s').2];exact h.th s' hs' hh
  by_cases he:b.spare.length=0
  ·have hnq:b.newQ=((b.a.queues.length:Int),b.spare,b.a.openQ):=by rw[Book.newQ,y1a he]
   have hql:=c.wf.ql;have hspe:b.spare=[]:=y1z he;have hqs':B.qs.Perm ((Q.length:Int)::b.qs):=by
    rw[hnq]at hqs;rw[<- hql];exact hqs
   refine fin (Q++[[]]) (by rw[ha,hnq];exact c.wf.open) (by rw[ha,hnq];rfl) (by rw[ha,hnq];rfl) (λk=> ?_) ?_ (λq hq=> ?_) ?_ ?_ (λq hq=> ?_) ?_
   ·rw[yAn];split
    ·rename_i e;rw[e,y1h,y2i (y1u _)];rfl
    ·rfl
   ·rw[hnq,y1h,y2i (by dsimp only;omega)];rfl
   ·rw[y0x];rcases y1r.1 (hqs'.mem_iff.1 hq)with rfl|hq
    ·simp only[y2z];omega
    ·have:=c.rng q hq;simp only[y2z];omega
   ·refine hqs'.nodup_iff.2 (y3l.2 ⟨λhm=> ?_,c.nd⟩);have:=c.rng _ hm;omega
   ·rw[hqs'.length_eq,y1d,y0x,c.ql];rfl
   ·rw[hspr,hnq]at hq;rw[hspe]at hq;cases hq
   ·have h1:=z0c (l:=b.rungs 1) (f:=b.rOrds Q 1) λr hr e=>c.ne 1 (.inl rfl) r hr (λe2=>by have:=c.rng _ (vY (.inl rfl) hr);omega) (List.map_eq_nil_iff.1 e)
    have h2:=z0c (l:=b.rungs 2) (f:=b.rOrds Q 2) λr hr e=>c.ne 2 (.inr rfl) r hr (λe2=>by have:=c.rng _ (vY (.inr rfl) hr);omega) (List.map_eq_nil_iff.1 e)
    have h3:=c.ql;rw[Book.flat,y0x,Book.sideL,Book.sideL]at hl;rw[Book.qs,y0x,y0x,y0z,y0z,he]at h3;rw[rL]at h1 hl;rw[rJ]at h2 hl;rw[y0x,y2z];omega
  ·have hnq:b.newQ=(b.spare.getD (b.spare.length-1) 0,b.spare.take (b.spare.length-1),b.a):=by rw[Book.newQ,y0y he]
   obtain⟨sp,q,hspq⟩:∃sp q,b.spare=sp++[q]:=⟨_,_,(List.dropLast_concat_getLast (l:=b.spare) (by intro e;rw[e]at he;exact he rfl)).symm⟩
   have e1:b.newQ=(q,sp,b.a):=by
    rw[hnq,hspq];simp
   have hqs':B.qs.Perm b.qs:=by
    refine hqs.trans ?_;rw[e1];show(q::(b.buys.map (·.queue)++b.sells.map (·.queue)++sp)).Perm (b.buys.map (·.queue)++b.sells.map (·.queue)++b.spare)
    rw[hspq,<- y1e];exact y5h q _|>.symm
   have hq0:q∈b.spare:=by rw[hspq];simp
   refine fin Q (by rw[ha,e1];exact c.wf) (by rw[ha,e1]) (by rw[ha,e1]) (λ_=>rfl) (by rw[e1];exact c.sp q hq0) (λq hq=>c.rng q (hqs'.mem_iff.1 hq)) (hqs'.nodup_iff.2 c.nd) (by rw[hqs'.length_eq];exact c.ql) (λq' hq'=> ?_) c.qb;rw[hspr,e1]at hq';exact c.sp q' (by rw[hspq];exact y2t _ hq')
def Book.Core.used {b:Book} {Q:List (List Nat)} (c:b.Core Q (-1)) (hl:(b.flat Q).length<250):b.a.free≠0:=by
 intro hf;have hcn:=c.wf.free;rw[hf]at hcn;have hz:(b.a.slots.map (·.used)).countP (!·)=0:=by omega
 rw[List.countP_eq_zero]at hz;have hin:∀k∈ao 250,k∈((b.rungs 1).flatMap (y6 Q)++(b.rungs 2).flatMap (y6 Q)):=by
  intro k hk;have hk:=y4f.1 hk;obtain⟨s,hs⟩:=yE (l:=b.a.slots) (i:=k) (by rw[c.wf.len];exact hk);have hu:s.used=ax:=by
   have:=hz s.used (y2c (y1j hs));simpa using this
  obtain⟨n,l,hn,hkl⟩:=c.wf.us k s hs hu;have hnQ:=(y1c.1 hn).1;have hm:(n:Int)∈b.qs:=z8t c.nd (λx hx=>by rw[c.ql];exact c.rng x hx) (by rw[c.ql];exact hnQ);have e:∀r:xC,r.queue=(n:Int)->k∈y6 Q r:=by
   intro r hr;rw[y6,hr,y1o,zV hn];exact hkl
  rw[Book.qs]at hm;rcases y2f.1 hm with hm|hm
  ·rcases y2f.1 hm with hm|hm
   ·obtain⟨r,hr,er⟩:=y2m.1 hm;exact y2t _ (y3t.2 ⟨r,hr,e r er⟩)
   ·obtain⟨r,hr,er⟩:=y2m.1 hm;exact y3a _ (y3t.2 ⟨r,hr,e r er⟩)
  ·have:=c.sp _ hm;rw[y1o,zV hn]at this;rw[this]at hkl;cases hkl
 have h1:=zFn List.nodup_range hin;have e:∀s,(b.sideL Q s).length=((b.rungs s).flatMap (y6 Q)).length:=by
  intro s;rw[Book.sideL,y5u,y5u];congr 1;exact y2g λr _=>by rw[Book.rOrds,y0z]
 rw[y0x,<- e,<- e,List.length_range]at h1;rw[Book.flat,y0x]at hl;omega
def zUi {s p:Int} {o:zG} (h:o.side≠s) (hlt:o.side=1\/o.side=2) (hs:s=1\/s=2):before s p o=decide (s=2):=by
 rw[before,y1s h,y4g,Bool.or_false];rcases hs with rfl|rfl
 ·rw[y1s (by omega),y1s (by omega)]
 ·rw[y1v (by omega),y1v rfl]
def Queued.put {b:Book} {Q:List (List Nat)} {s p:Int} {b':Book} {n:Int} {Q':List (List Nat)} {R1 R2:List xC} (h:Queued b Q s p b' n Q' R1 R2) (hs:s=1\/s=2) {id qty:Int} (top:Bool) (hid:id∉(b.flat Q).map (·.id)) (hf:b.a.free≠0) (hq:1<=qty/\qty<=1000000):
 ∃Q3 A B,({b' with a:=(b'.a.push n id qty top).1,at_:=n9 id ⟨s,p,(b'.a.push n id qty top).2.1⟩ b'.at_}:Book).Core Q3 (-1)/\b'.flat Q'=A++B/\
  ({b' with a:=(b'.a.push n id qty top).1,at_:=n9 id ⟨s,p,(b'.a.push n id qty top).2.1⟩ b'.at_}:Book).flat Q3=A++⟨id,s,p,qty,top⟩::B/\(∀o∈A,before s p o=ax)/\∀o∈B,before s p o=ay:=by
 have c:=h.core;have hrm:(⟨p,n⟩:xC)∈b'.rungs s:=by rw[h.rungs];simp
 have hnr:0<=n/\n<Q'.length:=c.rng n (vY hs hrm);obtain⟨m,rfl⟩:∃m:Nat,n=m:=⟨n.toNat,oM⟩
 have hl:Q'[m]? =az (y6 Q' ⟨p,m⟩):=zXs (r:=⟨p,m⟩) hnr;obtain⟨k,k1,k2,k3,k4,kw,kent,kfree⟩:=c.wf.put (id:=id) hl (by rw[h.free];exact hf) top hq;have hpush:b'.a.push m id qty top=(b'.a.put m id qty top,(k:Int),0):=by
  have:=c.wf.ql;rw[Arena.push,y0y (by omega),y0y (by omega),y0y (by rw[h.free];exact hf),k1]
 rw[hpush];dsimp only;have hmQ:=(y1c.1 hl).1;have hqd:∀s' (r:xC),(s'=1\/s'=2)->r∈b'.rungs s'->(r.queue=m->s'=s/\r=⟨p,m⟩):=by
  intro s' r hs' hr e;obtain⟨rest,q1,_⟩:=z5s (b:=b') hs;have hnd:=q1.nodup_iff.1 c.nd;rw[h.rungs,y1i,y1m]at hnd;by_cases es:s'=s
  ·subst es;refine⟨rfl,?_⟩;rw[h.rungs]at hr;have hnd2:=(y3g.1 hnd).1;rcases y2f.1 hr with hr|hr
   ·exact absurd e ((y3g.1 hnd2).2.2 r.queue (y2c (f:=(·.queue)) hr) m y1f)
   ·rcases y1r.1 hr with rfl|hr
    ·rfl
    ·have:=(y3l.1 (y3g.1 hnd2).2.1).1;exact absurd (e▸y2c (f:=(·.queue)) hr) this
  ·exfalso;have hcn:=c.nd;rw[Book.qs]at hcn;have hcn2:=(y3g.1 (y3g.1 hcn).1).2.2;have ha:(m:Int)∈(b'.rungs s).map (·.queue):=y2m.2 ⟨_,hrm,rfl⟩
   have hb:(m:Int)∈(b'.rungs s').map (·.queue):=y2m.2 ⟨r,hr,e⟩
   rcases hs with rfl|rfl<;>rcases hs' with rfl|rfl
   ·exact es rfl
   ·exact hcn2 _ ha _ hb rfl
   ·exact hcn2 _ hb _ ha rfl
   ·exact es rfl
 have hsl1:y6 (Q'.set m (y6 Q' ⟨p,m⟩++[k])) ⟨p,m⟩=y6 Q' ⟨p,m⟩++[k]:=by
  show(Q'.set m _).getD (Int.toNat (m:Int)) []=_;rw[y1o];exact zV (gJ hmQ)
 have hsl2:∀q:Int,0<=q->q≠m->(Q'.set m (y6 Q' ⟨p,m⟩++[k])).getD q.toNat []=Q'.getD q.toNat []:=by
  intro q h0 hne;rw[y1h,wQ (by omega),y1h]
 generalize hQ3:Q'.set m (y6 Q' ⟨p,m⟩++[k])=Q3 at*;have hQl:Q3.length=Q'.length:=by rw[<- hQ3,y2d]
 have hpid:=bC;have hord:∀s' (r:xC),(s'=1\/s'=2)->r∈b'.rungs s'->∀j∈y6 Q' r,j≠k/\(j9 (b'.a.put m id qty top) s' r.price j=j9 b'.a s' r.price j/\wN (b'.a.put m id qty top) s' r.price j=wN b'.a s' r.price j):=by
  intro s' r hs' hr j hj;have hjk:j≠k:=by rintro rfl;exact k4 _ _ (c.get hs' hr) hj
  have:=kent j;rw[y0y hjk]at this;refine⟨hjk,by rw[j9,j9,this],?_⟩;have:=congrArg Ent.id this;rw[wN,wN];exact congrArg (λi=>(i,(⟨s',r.price,j⟩:Place))) this
 have hr0:∀s' (r:xC),(s'=1\/s'=2)->r∈b'.rungs s'->r.queue≠m->y6 Q3 r=y6 Q' r:=by
  intro s' r hs' hr hne;exact hsl2 _ (c.rng _ (vY hs' hr)).1 hne
 generalize hB:({b' with a:=b'.a.put m id qty top,at_:=n9 id ⟨s,p,k⟩ b'.at_}:Book)=B3;have hBr:∀s',B3.rungs s'=b'.rungs s':=by intro s';rw[<- hB];rfl
 have hBa:B3.a=b'.a.put m id qty top:=by rw[<- hB]
 have hBat:B3.at_=n9 id ⟨s,p,k⟩ b'.at_:=by rw[<- hB]
 have hBqs:B3.qs=b'.qs:=by rw[<- hB];rfl
 have hBsp:B3.spare=b'.spare:=by rw[<- hB]
 have hro:∀s' (r:xC),(s'=1\/s'=2)->r∈b'.rungs s'->r.queue≠m->B3.rOrds Q3 s' r=b'.rOrds Q' s' r/\(y6 Q3 r).map (wN B3.a s' r.price)=(y6 Q' r).map (wN b'.a s' r.price):=by
  intro s' r hs' hr hne;rw[Book.rOrds,Book.rOrds,hr0 s' r hs' hr hne,hBa];exact⟨y2g λj hj=>(hord s' r hs' hr j hj).2.1,y2g λj hj=>(hord s' r hs' hr j hj).2.2⟩
 have hnew:j9 B3.a s p k=⟨id,s,p,qty,top⟩/\wN B3.a s p k=(id,⟨s,p,k⟩):=by
  have:=kent k;rw[y1a rfl]at this;rw[j9,hBa,this];refine⟨rfl,?_⟩;have:=congrArg Ent.id this;rw[wN];exact congrArg (λi=>(i,(⟨s,p,k⟩:Place))) this
 have hroN:B3.rOrds Q3 s ⟨p,m⟩=b'.rOrds Q' s ⟨p,m⟩++[⟨id,s,p,qty,top⟩]/\(y6 Q3 ⟨p,m⟩).map (wN B3.a s p)=(y6 Q' ⟨p,m⟩).map (wN b'.a s p)++[(id,⟨s,p,k⟩)]:=by
  rw[Book.rOrds,Book.rOrds,hsl1,y1i,y1i,am,am];refine⟨?_,?_⟩
  ·rw[hnew.1,y2g (g:=j9 b'.a s p) λj hj=>by rw[hBa];exact(hord s ⟨p,m⟩ hs hrm j hj).2.1]
  ·rw[hnew.2,y2g (g:=wN b'.a s p) λj hj=>by rw[hBa];exact(hord s ⟨p,m⟩ hs hrm j hj).2.2]
 have hR1:∀r∈R1,r∈b'.rungs s/\r.queue≠m:=by
  intro r hr;have hm:r∈b'.rungs s:=by rw[h.rungs];exact y2t _ hr
  refine⟨hm,λe=> ?_⟩;have e2:=(hqd s r hs hm e).2;have:=h.spl.a r hr;rw[e2,eR]at this;cases this
 have hR2:∀r∈R2,r∈b'.rungs s/\r.queue≠m:=by
  intro r hr;have hm:r∈b'.rungs s:=by rw[h.rungs];exact y3a _ (y1g _ hr)
  refine⟨hm,λe=> ?_⟩;have e2:=(hqd s r hs hm e).2;have:=h.spl.b r hr;rw[e2,eR]at this;cases this
 have zC:B3.sideL Q3 s=(R1.flatMap (b'.rOrds Q' s)++b'.rOrds Q' s ⟨p,m⟩)++⟨id,s,p,qty,top⟩::R2.flatMap (b'.rOrds Q' s):=by
  rw[Book.sideL,hBr,h.rungs,y2u,y2q,hroN.1,y7 (l:=R1) (λr hr=>(hro s r hs (hR1 r hr).1 (hR1 r hr).2).1),y7 (l:=R2) (λr hr=>(hro s r hs (hR2 r hr).1 (hR2 r hr).2).1)];simp
 have sideO:b'.sideL Q' s=(R1.flatMap (b'.rOrds Q' s)++b'.rOrds Q' s ⟨p,m⟩)++R2.flatMap (b'.rOrds Q' s):=by
  rw[Book.sideL,h.rungs,y2u,y2q,y1e]
 have plcN:(B3.plcs Q3 s).Perm ((id,⟨s,p,k⟩)::b'.plcs Q' s):=by
  rw[Book.plcs,hBr,h.rungs,y2u,y2q,hroN.2,y7 (l:=R1) (λr hr=>(hro s r hs (hR1 r hr).1 (hR1 r hr).2).2),y7 (l:=R2) (λr hr=>(hro s r hs (hR2 r hr).1 (hR2 r hr).2).2),Book.plcs,h.rungs,y2u,y2q];rw[y1e,List.singleton_append,<- y1e];refine y1n.trans ?_;rw[y1e]
 have other:∀s',s'≠s->s'=1\/s'=2->B3.sideL Q3 s'=b'.sideL Q' s'/\B3.plcs Q3 s'=b'.plcs Q' s':=by
  intro s' hne hs';have hne':∀r∈b'.rungs s',r.queue≠m:=λr hr e=>hne (hqd s' r hs' hr e).1
  rw[Book.sideL,Book.sideL,Book.plcs,Book.plcs,hBr];exact⟨y7 λr hr=>(hro s' r hs' hr (hne' r hr)).1,y7 λr hr=>(hro s' r hs' hr (hne' r hr)).2⟩
 have bA:∀o∈R1.flatMap (b'.rOrds Q' s)++b'.rOrds Q' s ⟨p,m⟩,before s p o=ax:=by
  intro o ho;rcases y2f.1 ho with ho|ho
  ·obtain⟨r,hr,ho⟩:=y3t.1 ho;obtain⟨e1,e2⟩:=x0 ho;rw[before,e1,e2,zXm (h.spl.a r hr)];simp
  ·obtain⟨e1,e2⟩:=x0 ho;rw[before,e1,e2,eR];simp
 have bB:∀o∈R2.flatMap (b'.rOrds Q' s),before s p o=ay:=by
  intro o ho;obtain⟨r,hr,ho⟩:=y3t.1 ho;obtain⟨e1,e2⟩:=x0 ho;rw[before,e1,e2,h.spl.b r hr];simp
 have bO:∀s',s'≠s->s'=1\/s'=2->∀o∈b'.sideL Q' s',before s p o=decide (s=2):=by
  intro s' hne hs' o ho;have:=(aE ho).1;exact zUi oM oM hs
 have flatE:∃A B,b'.flat Q'=A++B/\B3.flat Q3=A++⟨id,s,p,qty,top⟩::B/\(∀o∈A,before s p o=ax)/\∀o∈B,before s p o=ay:=by
  rcases hs with rfl|rfl
  ·refine⟨_,R2.flatMap (b'.rOrds Q' 1)++b'.sideL Q' 2,?_,?_,bA,λo ho=> ?_⟩
   ·rw[Book.flat,sideO];simp only[y1e]
   ·rw[Book.flat,zC,(other 2 (by decide) (.inr rfl)).1];simp only[y1e,y2p]
   ·rcases y2f.1 ho with ho|ho
    ·exact bB o ho
    ·exact bO 2 Z8 (.inr rfl) o ho
  ·refine⟨b'.sideL Q' 1++(R1.flatMap (b'.rOrds Q' 2)++b'.rOrds Q' 2 ⟨p,m⟩),R2.flatMap (b'.rOrds Q' 2),?_,?_,λo ho=> ?_,bB⟩
   ·rw[Book.flat,sideO];simp only[y1e]
   ·rw[Book.flat,zC,(other 1 (by decide) (.inl rfl)).1];simp only[y1e]
   ·rcases y2f.1 ho with ho|ho
    ·exact bO 1 Z8 (.inl rfl) o ho
    ·exact bA o ho
 obtain⟨A,B,f1,f2,f3,f4⟩:=flatE;refine⟨Q3,A,B,⟨by rw[hBa];exact kw,λs' hs'=>by rw[hBr];exact c.srt s' hs',by rw[hBqs,hQl];exact c.rng,by rw[hBqs];exact c.nd,by rw[hBqs,hQl];exact c.ql,λs' hs' r hr _=> ?_,λq hq=> ?_,?_,?_,by rw[hQl];exact c.qb⟩,f1,f2,f3,f4⟩
 ·rw[hBr]at hr;by_cases e:r.queue=m
  ·obtain⟨rfl,rfl⟩:=hqd s' r hs' hr e;rw[hsl1];simp
  ·rw[hr0 s' r hs' hr e];exact c.ne s' hs' r hr e
 ·rw[hBsp]at hq;have hqq:q∈b'.qs:=y3a _ hq;rw[hsl2 q (c.rng q hqq).1 λe=> ?_]
  ·exact c.sp q hq
  ·have hcn:=c.nd;rw[Book.qs]at hcn;refine(y3g.1 hcn).2.2 m ?_ q hq e.symm;rcases hs with rfl|rfl
   ·exact y2t _ (y2m.2 ⟨_,hrm,rfl⟩)
   ·exact y3a _ (y2m.2 ⟨_,hrm,rfl⟩)
 ·have hnk:id∉b'.at_.map (·.1):=by
   rw[c.keysP.mem_iff,h.flat];exact hid
  rw[hBat,zWe hnk];refine(y5h _ _).trans ?_;rcases hs with rfl|rfl
  ·rw[(other 2 (by decide) (.inr rfl)).2];exact(c.at_.cons _).trans (plcN.symm.append_right _)
  ·rw[(other 1 (by decide) (.inl rfl)).2];refine(c.at_.cons _).trans ?_;refine(y1n.symm).trans (plcN.symm.append_left _)
 ·rw[f2,y1i,y1m];have h1:=c.ids;rw[f1,y1i]at h1;have h2:id∉(A++B).map (·.id):=by rw[<- f1,h.flat];exact hid
  refine y1n.nodup_iff.2 (y3l.2 ⟨by rw[y1i]at h2;exact h2,h1⟩)
def jU (L:List zG) (id:Int):Bool:=L.any λo=>decide (o.id=id)
def zIf (L:List zG) (s id p q:Int):List zG×Int:=if q<1\/1000000<q then(L,24)else if jU L id=ax then(L,25)else if 250<=L.length then(L,13)else(zSv L s id p q,0)
def hasId_iff {L:List zG} {id:Int}:jU L id=ax↔id∈L.map (·.id):=by
 rw[jU,List.any_eq_true,y2m];constructor
 ·rintro⟨o,ho,e⟩;exact⟨o,ho,y1y e⟩
 ·rintro⟨o,ho,e⟩;exact⟨o,ho,y1v e⟩
def m7 {b:Book} {Q:List (List Nat)} {o:zG} (h:o∈b.flat Q):(o.side=1\/o.side=2)/\∃r∈b.rungs o.side,o∈b.rOrds Q o.side r/\o.price=r.price:=by
 rcases y2f.1 h with h|h
 all_goals
  obtain⟨e,r,hr,ho,hp⟩:=aE h;rw[e];exact⟨by simp,r,hr,ho,hp⟩
def flat_mem {b:Book} {Q:List (List Nat)} {s:Int} (hs:s=1\/s=2) {o:zG} (h:o∈b.sideL Q s):o∈b.flat Q:=by
 rcases hs with rfl|rfl
 ·exact y2t _ h
 ·exact y3a _ h
def Book.Core.leads {b:Book} {Q:List (List Nat)} (c:b.Core Q (-1)) {s:Int} (hs:s=1\/s=2) (p:Int):b.leads s p=uT (b.flat Q) s p:=by
 have hsrt:=c.srt s hs;have hne:=c.ne s hs;rw[Book.leads];cases hr:b.rungs s with
 |nil=>
  symm;dsimp only;rw[uT,y4h];intro o ho;obtain⟨_,r,hr2,_⟩:=m7 ho;by_cases e:o.side=s
  ·rw[e,hr]at hr2;cases hr2
  ·rw[y1s e];rfl
 |cons r0 l=>
  dsimp only;rw[hr,y4n]at hsrt;have hm:r0∈b.rungs s:=by rw[hr];exact y1f
  cases hb:btr s p r0.price with
  |true=>
   symm;rw[uT,y4h];intro o ho;obtain⟨_,r,hr2,_,hp⟩:=m7 ho;by_cases e:o.side=s
   ·rw[e,hr]at hr2;rw[hp];rcases y1r.1 hr2 with rfl|hr2
    ·rw[hb];simp
    ·rw[zOt hb (hsrt.1 r hr2)];simp
   ·rw[y1s e];rfl
  |false=>
   symm;rw[uT,List.all_eq_false];have h0:=hne r0 hm λe=>by have:=c.rng _ (vY hs hm);omega
   cases hk:y6 Q r0 with
   |nil=>exact absurd hk h0
   |cons k ks=>
    refine⟨j9 b.a s r0.price k,flat_mem hs (y3t.2 ⟨r0,hm,by rw[Book.rOrds,hk];exact y1f⟩),?_⟩;show ¬((!decide (s=s))||btr s p r0.price)=ax;rw[hb];simp
def z5l {L:List zG} {s:Int} {o:zG} (h:o∈clr L s):∃o'∈L,o.id=o'.id/\o.side=o'.side/\o.price=o'.price/\o.qty=o'.qty/\o.top=(if o.side=s then ay else o'.top):=by
 obtain⟨o',ho,e⟩:=y2m.1 h;refine⟨o',ho,?_⟩;by_cases c:o'.side=s
 ·rw[y1a c]at e;subst e;exact(rF4 ((y1a c).symm))
 ·rw[y0y c]at e;subst e;exact(rF4 ((y0y c).symm))
def yKo {L:List zG} {s:Int} {o:zG} (h:o∈L) (hs:o.side≠s):o∈clr L s:=y2m.2 ⟨o,h,y0y hs⟩
def z5p (L:List zG) (s:Int):(clr L s).map (·.id)=L.map (·.id):=by
 rw[clr,y3j];refine y2g λo _=> ?_
 simp only[ce];split<;>rfl
def zWq (b:Book) (id:Int) {s:Int} (hs:s=1\/s=2):(b.leadF id s).a=b.untop s/\(b.leadF id s).buys=b.buys/\(b.leadF id s).sells=b.sells/\(b.leadF id s).at_=b.at_/\(b.leadF id s).spare=b.spare/\∀s',s'=1\/s'=2->(b.leadF id s).hasF s'=(if s'=s then ax else b.hasF s')/\(b.leadF id s).topI s'=(if s'=s then id else b.topI s'):=by
 rcases hs with rfl|rfl
 ·exact(rF5 (λs' h=>by rcases h with rfl|rfl<;>exact⟨rfl,rfl⟩))
 ·exact(rF5 (λs' h=>by rcases h with rfl|rfl<;>exact⟨rfl,rfl⟩))
def Book.Core.like {b b':Book} {Q:List (List Nat)} {h:Int} (c:b.Core Q h) (e1:b'.a=b.a) (e2:b'.buys=b.buys) (e3:b'.sells=b.sells) (e4:b'.at_=b.at_) (e5:b'.spare=b.spare):b'.Core Q h/\b'.flat Q=b.flat Q:=by
 have er:∀s,b'.rungs s=b.rungs s:=λs=>by rw[Book.rungs,Book.rungs,e2,e3]
 have eo:∀s r,b'.rOrds Q s r=b.rOrds Q s r:=λs r=>by rw[Book.rOrds,Book.rOrds,e1]
 have es:∀s,b'.sideL Q s=b.sideL Q s:=λs=>by rw[Book.sideL,Book.sideL,er];exact y7 λr _=>eo s r
 have ep:∀s,b'.plcs Q s=b.plcs Q s:=λs=>by rw[Book.plcs,Book.plcs,er,e1]
 have ef:b'.flat Q=b.flat Q:=by rw[Book.flat,Book.flat,es,es]
 have eq:b'.qs=b.qs:=by rw[Book.qs,Book.qs,e2,e3,e5]
 exact⟨⟨by rw[e1];exact c.wf,λs hs=>by rw[er];exact c.srt s hs,by rw[eq];exact c.rng,by rw[eq];exact c.nd,by rw[eq];exact c.ql,λs hs=>by rw[er];exact c.ne s hs,by rw[e5];exact c.sp,by rw[e4,ep,ep];exact c.at_,by rw[ef];exact c.ids,c.qb⟩,ef⟩
def Book.Rep.stand {b:Book} {L:List zG} (h:b.Rep L) {s:Int} (hs:s=1\/s=2) {id p q:Int} (hid:id∉L.map (·.id)) (hl:L.length<250) (hq:1<=q/\q<=1000000):(b.stand s id p q).Rep (zSv L s id p q):=by
 obtain⟨Q,c,ht,rfl⟩:=h;have hld:=c.leads hs p;have h1:(b.led id s p).Core Q (-1)/\(b.led id s p).flat Q=(if uT (b.flat Q) s p=ax then clr (b.flat Q) s else b.flat Q):=by
  rw[Book.led,hld];split
  ·obtain⟨e1,e2,e3,e4,e5,_⟩:=zWq b id hs;obtain⟨u1,u2⟩:=c.untop s;obtain⟨v1,v2⟩:=Book.Core.like (b':=b.leadF id s) (c.flag u1 u2) e1 e2 e3 e4 e5;exact⟨v1,v2.trans (c.untop_flat ht hs)⟩
  ·exact⟨c,rfl⟩
 obtain⟨c1,f1⟩:=h1;have hlen1:((b.led id s p).flat Q).length<250:=by
  rw[f1];split
  ·rw[clr,y0z];exact hl
  ·exact hl
 have hid1:id∉((b.led id s p).flat Q).map (·.id):=by
  rw[f1];split
  ·rw[z5p];exact hid
  ·exact hid
 obtain⟨Q',R1,R2,hqd⟩:=c1.queue hlen1 hs p;obtain⟨Q3,A,B,k1,k2,k3,k4,k5⟩:=hqd.put hs (b.leads s p) hid1 (c1.used hlen1) hq;have hAB:A++B=(if uT (b.flat Q) s p=ax then clr (b.flat Q) s else b.flat Q):=by rw[<- k2,hqd.flat,f1]
 have hins:zSv (b.flat Q) s id p q=A++⟨id,s,p,q,b.leads s p⟩::B:=by
  rw[zSv];obtain⟨t1,t2⟩:=yBu k4 k5;rw[<- hAB,t1,t2,hld]
 refine⟨Q3,k1,?_,?_⟩
 ·rw[hins,hld];show Book.Tops {((b.led id s p).queueF s p).1 with a:=_,at_:=_} _;have hto:∀x,({((b.led id s p).queueF s p).1 with a:=(((b.led id s p).queueF s p).1.a.push ((b.led id s p).queueF s p).2 id q (b.leads s p)).1,at_:=n9 id ⟨s,p,(((b.led id s p).queueF s p).1.a.push ((b.led id s p).queueF s p).2 id q (b.leads s p)).2.1⟩ ((b.led id s p).queueF s p).1.at_}:Book).hasF x=(b.led id s p).hasF x/\({((b.led id s p).queueF s p).1 with a:=(((b.led id s p).queueF s p).1.a.push ((b.led id s p).queueF s p).2 id q (b.leads s p)).1,at_:=n9 id ⟨s,p,(((b.led id s p).queueF s p).1.a.push ((b.led id s p).queueF s p).2 id q (b.leads s p)).2.1⟩ ((b.led id s p).queueF s p).1.at_}:Book).topI x=(b.led id s p).topI x:=hqd.qty;generalize ({((b.led id s p).queueF s p).1 with a:=(((b.led id s p).queueF s p).1.a.push ((b.led id s p).queueF s p).2 id q (b.leads s p)).1,at_:=n9 id ⟨s,p,(((b.led id s p).queueF s p).1.a.push ((b.led id s p).queueF s p).2 id q (b.leads s p)).2.1⟩ ((b.led id s p).queueF s p).1.at_}:Book)=B3 at*;have mAB:∀o,o∈A++⟨id,s,p,q,uT (b.flat Q) s p⟩::B↔o=⟨id,s,p,q,uT (b.flat Q) s p⟩\/o∈A++B:=by
   intro o;rw[y2f,y1r,y2f];constructor
   ·rintro(h|h|h)
    ·exact .inr (.inl h)
    ·exact .inl h
    ·exact .inr (.inr h)
   ·rintro(h|h|h)
    ·exact .inr (.inl h)
    ·exact .inl h
    ·exact .inr (.inr h)
  have hsd:∀o∈b.flat Q,o.side=1\/o.side=2:=λo ho=>(m7 ho).1
  by_cases hlead:uT (b.flat Q) s p=ax
  ·rw[y1a hlead]at hAB;have hb1:b.led id s p=b.leadF id s:=by rw[Book.led,y1a (hld.trans hlead)]
   obtain⟨_,_,_,_,_,e6⟩:=zWq b id hs;rw[hb1]at hto;refine⟨λo ho=> ?_,λs' hs' hh=> ?_⟩
   ·rcases(mAB o).1 ho with rfl|ho
    ·rw[(hto s).1,(hto s).2,(e6 s hs).1,(e6 s hs).2,y1a rfl,y1a rfl,hlead];simp
    ·rw[hAB]at ho;obtain⟨o',ho',i1,i2,_,_,i5⟩:=z5l ho;rw[(hto _).1,(hto _).2,i5,(e6 o.side (by rw[i2];exact hsd o' ho')).1,(e6 o.side (by rw[i2];exact hsd o' ho')).2];by_cases e:o.side=s
     ·rw[y1a e,y1a e,y1a e,y4b];symm;refine y1s λe2=>hid ?_
      rw[<- e2,i1];exact y2c ho'
     ·rw[y0y e,y0y e,y0y e,ht.fl o' ho',i1,i2]
   ·rw[(hto s').2,(e6 s' hs').2];by_cases e:s'=s
    ·rw[y1a e];exact⟨_,(mAB _).2 (.inl rfl),e.symm,rfl⟩
    ·rw[(hto s').1,(e6 s' hs').1,y0y e]at hh;rw[y0y e];obtain⟨o,ho,o1,o2⟩:=ht.th s' hs' hh;exact⟨o,(mAB _).2 (.inr (by rw[hAB];exact yKo ho (by rw[o1];exact e))),o1,o2⟩
  ·rw[y0y hlead]at hAB;have hlf:uT (b.flat Q) s p=ay:=by simpa using hlead
   have hb1:b.led id s p=b:=by rw[Book.led,y0y (by rw[hld];exact hlead)]
   rw[hb1]at hto;refine⟨λo ho=> ?_,λs' hs' hh=> ?_⟩
   ·rw[(hto _).1,(hto _).2];rcases(mAB o).1 ho with rfl|ho
    ·show uT (b.flat Q) s p=(b.hasF s && decide (id=b.topI s));rw[hlf];cases hh:b.hasF s with
     |false=>rfl
     |true=>
      rw[y4b];symm;refine y1s λe2=>hid ?_
      obtain⟨o,ho,_,o2⟩:=ht.th s hs hh;rw[e2,<- o2];exact y2c ho
    ·rw[hAB]at ho;exact ht.fl o ho
   ·rw[(hto s').1]at hh;rw[(hto s').2];obtain⟨o,ho,o1,o2⟩:=ht.th s' hs' hh;exact⟨o,(mAB _).2 (.inr (by rw[hAB];exact ho)),o1,o2⟩
 ·rw[hins];exact k3.symm
def Book.Rep.pget {b:Book} {L:List zG} (h:b.Rep L) (id:Int):(pget b.at_ id).isSome=jU L id:=by
 obtain⟨Q,c,ht,rfl⟩:=h;cases hg:Sx.pget b.at_ id with
 |none=>
  have:=zEt hg;rw[c.keysP.mem_iff,<- hasId_iff]at this;symm;simpa using this
 |some x=>
  have:=y2c (f:=(·.1)) (sY hg)
  rw[c.keysP.mem_iff,<- hasId_iff]at this;symm;exact this
def Book.Rep.len {b:Book} {L:List zG} (h:b.Rep L):b.at_.length=L.length:=by
 obtain⟨Q,c,ht,rfl⟩:=h;exact c.len
def Book.Rep.add {b:Book} {L:List zG} (h:b.Rep L) {s:Int} (hs:s=1\/s=2) (id p q:Int):(b.addF s id p q).1.Rep (zIf L s id p q).1/\(b.addF s id p q).2=(zIf L s id p q).2:=by
 rw[Book.addF,zIf,h.pget,h.len]
 repeat' split
 all_goals first|exact⟨h,rfl⟩|skip
 rename_i c1 c2 c3;exact⟨h.stand hs (λe=>c2 (hasId_iff.2 e)) oM oM,rfl⟩
def z8d:book0.Rep []:=by
 refine⟨[],⟨⟨⟨by simp[book0,zMr],rfl,λn l h=>by simp at h,λn l h=>by simp at h,λn l h=>by simp at h,λk s hk hu=> ?_,?_⟩,λn l h=>by simp at h⟩,λs hs=> ?_,λq hq=>by simp[book0,Book.qs]at hq,by simp[book0,Book.qs],rfl,λs hs r hr=> ?_,λq hq=>by simp[book0]at hq,?_,?_,Z8⟩,⟨λo ho=>(by cases ho),λs hs hh=> ?_⟩,?_⟩
 ·have:=y1j hk;rw[y6j this]at hu;cases hu
 ·decide
 ·rcases hs with rfl|rfl<;>exact List.Pairwise.nil
 ·rcases hs with rfl|rfl<;>cases hr
 ·exact List.Perm.refl _
 ·exact List.nodup_nil
 ·rcases hs with rfl|rfl<;>cases hh
 ·rfl
structure BoI where
 b:Book
 s:Int
 r:xC
 l:List Nat
def BoI.ords (i:BoI):List zG:=(i.b.a.ents i.l).map λe=>⟨e.id,i.s,i.r.price,e.qty,e.top⟩
def ordersC:Con:=zR BoI (λi=>[.nm 0 0,zA i.s,.agg [zA i.r.price,zA i.r.queue]]) (λi=>[z6 i.b]) (λi=>i.b.a.listOk i.r.queue i.l) (λ_=> .own 1) (λi=>[z6 i.b,.own 57 5 (i.ords.map j8)])
def yLp (i:BoI):List SAnn:=[{ι:=Nat,slots:=λj=>[(7,.own 0),(18,zA j)],rows:=λj=>[.own 57 5 ((i.ords.take j).map j8)]}]
def hY (a:ArL):=(aa zIj (a.a.ents a.l))
def z3w (i:BoI):Prop:=
 ∃(a:ArL),a.n=i.r.queue/\aq Arena 3 zF a.a=aq Arena 3 zF i.b.a/\a.a.listOk a.n a.l/\∀(b:Unit),True->∃(c:Nat),(↑c:Int)=0/\aa j8 (ac c i.ords)=[]/\∃(d:Nat->Prop),∃(e:Nat->Nat),d c/\∀(f:Nat),d f->cnd (decide ((↑f:Int)<(↑(hY a).length:Int))) ((0<=(↑f:Int)/\(↑f:Int)<(↑(hY a).length:Int))/\∃(g:Int),∃(h:Int),∃(j:Int),∃(k:Bool),zE (hY a) (↑f:Int).toNat 0 4=az [dI g,dI h,dI j,D.v (.bool k)]/\((aa j8 (ac f i.ords)).length+1)*(40:Nat)<=(140737488355328:Nat)/\∃(l:Nat),(↑l:Int)=bo.wrap ((↑f:Int)+1)/\aa j8 (ac l i.ords)=aa j8 (ac f i.ords)++[[dI h,dI i.s,dI i.r.price,dI j,D.v (.bool k)]]/\d l/\e l<e f/\da (aq Arena 3 zF a.a)/\da (au 247 4 (hY a))/\da (ar [V.d (dI i.r.price),V.d (dI i.r.queue)] 255)/\da (ar [V.nm 1 0,V.own 2,V.own 3,V.mp 4,V.d (dI i.b.top1),V.d (dI i.b.top2),V.own 5,V.d (D.v (.bool i.b.has1)),V.d (D.v (.bool i.b.has2))] (245:bv))/\da (au 255 2 (aa zB i.b.buys))/\da (au 255 2 (aa zB i.b.sells))/\da (aw (atE i.b.at_))/\da (au 3 1 (iE i.b.spare))) (∃(g:Unit),da i.b.top1/\da i.b.top2/\da i.b.has1/\da i.b.has2/\aq Arena 3 zF i.b.a=aq Arena 3 zF a.a/\da (aa zB i.b.buys)/\da (aa zB i.b.sells)/\da (atE i.b.at_)/\da (iE i.b.spare)/\aa j8 i.ords=aa j8 (ac f i.ords)/\True)
def y0g {l:List Ent} {k:Nat} {e:Ent} (h:l[k]? =az e):zE (l.map zIj) k 0 4=az [D.v (.int .i64 e.slot),.v (.int .i64 e.id),.v (.int .i64 e.qty),.v (.bool e.top)]:=elA h (by simp[zIj]) rfl
def yIq (i:BoI) (h:ordersC.cnd i):z3w i:=by
 have h:i.b.a.listOk i.r.queue i.l:=h;have hl:=h.len;have hen:(i.b.a.ents i.l).length=i.l.length:=by simp[Arena.ents]
 have hol:i.ords.length=i.l.length:=by simp[BoI.ords,Arena.ents]
 unfold z3w hY dI;refine⟨⟨i.b.a,i.r.queue,i.l⟩,rfl,rfl,h,λ_ _=> ?_⟩;simp only[y0z];refine⟨0,rfl,rfl,λj=>j<=i.l.length,λj=>i.l.length-j,y2a _,λj hj=>zH (λc=> ?_) (λc=> ?_)⟩
 ·obtain⟨e,he⟩:=yE (l:=i.b.a.ents i.l) (i:=j) oM;have ho:i.ords[j]? =az ⟨e.id,i.s,i.r.price,e.qty,e.top⟩:=by rw[BoI.ords,y2n,he];rfl
  refine⟨⟨oM,oM⟩,e.slot,e.id,e.qty,e.top,y0g he,by rw[y1q];omega,j+1,wjn oM,?_,oM,Z9,k0q⟩;rw[y2e,ho];simp[j8]
 ·have hje:j=i.l.length:=by omega
  subst hje;rw[y1k (l:=i.ords) (by omega)]
  exact kp
def zQi:ordersC.ok Tryz.prog 209:=okw mixed (gokc yBc gok0) 0 (λ_=>[]) (λi=>yLp i) [0] Tryz.func209 yIq
open Go Go.RowKit Cv
def zXe {P:bt} {tS rt e sz by_:Nat} {z:Array bp} (hi:wS P tS=az (e,sz,by_,z)) {w:br} {g i c n k:Nat} {A:Option bw} {cur src:List bp} {T:bv}
 (hg:w.heap[g]? =az (.cells cur.toArray T (0,0))) (hs:(be sz n (.slice A n k)).run P w= .ok src.toArray w) (hl:src.length=n*sz) (hfit:i+n<=c) (hroom:i*sz+n*sz<=cur.length) (hone:∀v∈src,v.oneC=ax):
 uE P (bg #[tS,tS] rt #[.slice (az ⟨g,0,ba⟩) i c,.slice A n k]) w (.slice (az ⟨g,0,ba⟩) (i+n) c) (World.setB w g (.cells (spl cur (i*sz) src).toArray T (0,0))):=by
 obtain⟨inf,zv,q1,q2,rfl,rfl,q5,rfl⟩:=qO hi;have hst:=jF (P:=P) src 0 (i*inf.size) cur w hg oM hone;simp only[y5o]at hst;have hln:∀w,(Builtin.lenOf (.slice A n k)).run P w= .ok n w:=λw=>rfl
 unfold uE bg;simp only[y2y,y3h,y2w,bind,pure,run_bind,Sem.bind,Sem.run,Cv.run_underlying q1,Cv.run_sizeOf q2,y1p,if_false,hs,hln,hfit,if_true,wO,y1x,hst,y6f]
def z1a {P:bt} {tS ty e sz by_:Nat} {z:Array bp} (hi:wS P tS=az (e,sz,by_,z)) (hz:z.size=sz) (h1:∀v∈z.toList,v.oneC=ax) {w:br} {g o n c:Nat} {cur:List bp} {T:bv} (hn:0<n)
 (hg:w.heap[g]? =az (.cells cur.toArray T (0,0))) (hroom:o+n*sz<=cur.length):
 uE P (Builtin.clear_ #[tS] ty #[.slice (az ⟨g,o,ba⟩) n c]) w (.tuple #[]) (World.setB w g (.cells (spl cur o (bc z n).toList).toArray T (0,0))):=by
 obtain⟨inf,zv,q1,q2,rfl,rfl,q5,rfl⟩:=qO hi;have hlz:(bc zv.cells n).toList.length=n*inf.size:=by rw[y4t,bu,hz]
 have hst:=jF (P:=P) (bc zv.cells n).toList 0 o cur w hg oM (by
  intro v hv;obtain⟨i,hi,rfl⟩:=List.getElem_of_mem hv;simp only[bc,Array.getElem_toList,Array.getElem_map,Array.getElem_range];have hpos:0<zv.cells.size:=by
   rcases Nat.eq_zero_or_pos zv.cells.size with h0|h0
   ·rw[hlz,<- hz,h0]at hi;omega
   ·exact h0
  have hlt:i % zv.cells.size<zv.cells.size:=Nat.mod_lt _ hpos;rw[getElem!_pos zv.cells (i % zv.cells.size) hlt];exact h1 _ (by simp))
 simp only[y5o]at hst;have hzr:∀w,(zeroValue e).run P w= .ok zv w:=λw=>zero_run (by unfold zero?;rw[q2];exact q5) w
 obtain⟨m,rfl⟩:∃m,n=m+1:=⟨n-1,oM⟩
 unfold uE Builtin.clear_;simp only[y2y,y3h,y2w,bind,pure,run_bind,Sem.bind,Sem.run,Cv.run_underlying q1,hzr,hst]
def yQx (P:bt) (tS sz:Nat) (s:Option bw) (sn sk:Nat) (i j:Int) (w:br) (R:Ending->br->Prop):Prop:=
yTy s sk i j (sn:Int) sz λa1 na1 ka1=>
cnd ((i:Int)==j) (
R (.returned (.slice s sn sk)) w) (
z3s w λw2=>
slN s sn sk ba (az i) sz λa3 na3 ka3=>
slN s sn sk (az j) ba sz λa4 na4 ka4=>
∃(a5:Option bw) (na5 ka5:Nat),∃w6:br,uE P (bg #[tS,tS] tS #[.slice a3 na3 ka3,.slice a4 na4 ka4]) w2 (.slice a5 na5 ka5) w6/\
slN a5 na5 ka5 (az (na5:Int)) (az (sn:Int)) sz λa7 na7 ka7=>
∃w8:br,uE P (Builtin.clear_ #[tS] 0 #[.slice a7 na7 ka7]) w6 (.tuple #[]) w8/\
R (.returned (.slice a5 na5 ka5)) w8)
def yZa {P:bt} {tS e sz by_:Nat} {z:Array bp} (hi:wS P tS=az (e,sz,by_,z)) (hz:z.size=sz) (hz1:∀v∈z.toList,v.oneC=ax)
 {k:Ko} {w:br} {L:List HP} {s:Option bw} {sn sk i j:Nat} {xs:List bp} (H:Hp k w (slO e sz s sn sk xs::L)) (h1:∀u∈xs,u.oneC=ax) (hij:i<j) (hj:j<=sn):
 yQx P tS sz s sn sk i j w λen w'=>∃a kk,en= .returned (.slice a (sn-(j-i)) kk)/\Hp k w' (slO e sz a (sn-(j-i)) kk (xs.take (i*sz)++xs.drop (j*sz))::L):=by
 obtain⟨hxl,hnk⟩:=H.len;rcases H.slcases with⟨_,e0,_⟩|⟨b,r,rfl,g1,g2,g3,H0⟩
 ·omega
 have hle:i*sz<=xs.length:=by rw[hxl];exact y2k _ oM
 have hjle:j*sz<=xs.length:=by rw[hxl];exact y2k _ hj
 have hdl:(xs.drop (j*sz)).length=(sn-j)*sz:=by rw[y1w,hxl,Nat.sub_mul]
 have hsum:i*sz+(sn-j)*sz=(sn-(j-i))*sz:=by rw[<- y3y];congr 1;omega
 have hsum2:i*sz+(sn-j)*sz+(j-i)*sz=sn*sz:=by rw[<- y3y,<- y3y];congr 1;omega
 have hsum3:j*sz+(sn-j)*sz=sn*sz:=by rw[<- y3y];congr 1;omega
 have hlen:(xs++r).length=xs.length+r.length:=y0x;unfold yQx;simp only[yTy,slN,y1o];refine⟨⟨oM,oM,oM,oM⟩,Cv.cnd.mk (λc=>absurd c (by simp;omega)) λ_=> ?_⟩;rintro _ rfl;have H1:=H0.drew;have hsrc:(be sz (sn-j) (.slice (if sk=j then az ⟨b,0,ba⟩else(az ⟨b,0,ba⟩:Option bw).map (·.add (j*sz))) (sn-j) (sk-j))).run P w.drew= .ok (xs.drop (j*sz)).toArray w.drew:=by
  by_cases h0:(sn-j)*sz=0
  ·have:xs.drop (j*sz)=[]:=y1z oM;rw[this];by_cases hk:sk=j
   ·rw[y1a hk];unfold be;rw[h0];rfl
   ·rw[y0y hk,y3b,wO];unfold be;rw[h0];rfl
  ·have hk:sk≠j:=by rintro rfl;have:sn-sk=0:=by omega
                    rw[this]at h0;simp at h0
   rw[y0y hk,y3b,wO];unfold be;rw[uG H1.get (by rw[hlen];omega)];rw[y1x,y3n hjle,y2b (by omega),y1k (by omega)]
 refine⟨⟨oM,oM⟩,⟨oM,oM,hnk⟩,_,_,_,_,zXe (i:=i) (c:=sk) hi H1.get hsrc hdl oM (by rw[hlen];omega) (λv hv=>h1 v (y4o hv)),⟨oM,oM,oM⟩,?_⟩;have H2:=H1.upd (.cells (spl (xs++r) (i*sz) (xs.drop (j*sz))).toArray e);have e1:i+(sn-j)=sn-(j-i):=by omega
 rw[y0y (show sk≠i+(sn-j)by omega),y3b,wO,y1x,e1];have espl:spl (xs++r) (i*sz) (xs.drop (j*sz))=(xs.take (i*sz)++xs.drop (j*sz))++(xs++r).drop ((sn-(j-i))*sz):=by
  simp only[spl];rw[y2b hle,hdl,hsum]
 rw[espl]at H2;have hA:(xs.take (i*sz)++xs.drop (j*sz)).length=(sn-(j-i))*sz:=by
  rw[y0x,y1q,hdl];omega
 have hB:((xs++r).drop ((sn-(j-i))*sz)).length=(j-i)*sz+r.length:=by
  rw[y1w,hlen];omega
 rw[espl];have hn:sn-(sn-(j-i))=j-i:=by omega
 rw[hn];refine⟨_,z1a hi hz hz1 oM H2.get (by rw[y0x,hA,hB];omega),_,_,rfl,?_⟩;have H3:=H2.upd (.cells (spl (xs.take (i*sz)++xs.drop (j*sz)++(xs++r).drop ((sn-(j-i))*sz)) ((sn-(j-i))*sz) (bc z (j-i)).toList).toArray e);have es:=zSj (xs.take (i*sz)++xs.drop (j*sz)) ((xs++r).drop ((sn-(j-i))*sz)) (bc z (j-i)).toList;rw[hA]at es;rw[es]at H3;rw[es];rw[y1e (xs.take (i*sz)++xs.drop (j*sz))]at H3 ⊢;have hzl:(bc z (j-i)).toList.length=(j-i)*sz:=by rw[y4t,bu,hz]
 refine H3.slmk hA ?_ oM;rw[y0x,hA,y0x,hzl,y1w,hB,<- g2,hlen,hxl];omega
structure yPw where
 els:List (List D)
 i:Nat
 j:Nat
def yPh (e sz:Nat):Con where
 ι:=yPw
 pat:=λi=>[.own 0,.d (.v (.int .i64 i.i)),.d (.v (.int .i64 i.j))]
 pre:=λi=>[.own e sz i.els]
 cnd:=λi=>i.i<i.j/\i.j<=i.els.length
 alts:=λi=>[{o:=Unit,res:=λ_=> .own 1,post:=λ_=>[.gone,.own e sz (i.els.take i.i++i.els.drop i.j)],rel:=λ_=>True}]
def delX_ok {P:bt} (hm:P.follows .mixedOrders=ax) {tS e sz by_ fI:Nat} {z:Array bp} {fn:Func} {c:Code} (hf:P.funcs[fI]? =az fn) (hb:fn.body=az c) (hbd:vI P fI=ax) (hok:okC fn.ntmps c=ax) (hfx:okF [] c=ax) (hsz3:Nat.ble 3 fn.ntmps=ax)
 (hi:wS P tS=az (e,sz,by_,z)) (hz:z.size=sz) (hz1:∀v∈z.toList,v.oneC=ax)
 (heq:∀(s:Option bw) (sn sk:Nat) (i j:Int) (w:br) (R:Ending->br->Prop),yQx P tS sz s sn sk i j w R=cwp P [] c (zRp P fn R) (vK [.slice s sn sk,.int .i64 i,.int .i64 j]) w):
 (yPh e sz).ok P fI:=by
 intro i hc k L E w ys R hv;obtain⟨c1,c2⟩:i.i<i.j/\i.j<=i.els.length:=hc;simp only[yPh,VRL,VR,DR]at hv;obtain⟨y0,_,rfl,⟨l0,e0,_⟩,y1,_,rfl,⟨rfl,_⟩,y2,_,rfl,⟨rfl,_⟩,rfl⟩:=hv;obtain⟨s,sk,xs,sub0,g1,hxs,hu,H⟩:=R.ownOpen (n:=0) (t:=e) (sz:=sz) (els:=i.els) rfl;rw[e0]at g1;cases g1;have H2:Hp k w (slO e sz s i.els.length sk xs::fz E.F::L):=H;have hv:=yZa hi hz hz1 H2 hxs.one c1 c2;have hcall:=zHh (args:=[.slice s i.els.length sk,.int .i64 i.i,.int .i64 i.j]) hm hf hb [] hok hfx hsz3 (heq s i.els.length sk i.i i.j w _) hv;refine bL hbd (hcall.mono ?_);rintro en w' ⟨a,kk,rfl,H3⟩;have hl:(i.els.take i.i++i.els.drop i.j).length=i.els.length-(i.j-i.i):=by
  rw[y0x,y1q,y1w];omega
 have H4:Hp k w' (slO e sz a (i.els.take i.i++i.els.drop i.j).length kk (xs.take (i.i*sz)++xs.drop (i.j*sz))::(([]:List (Nat×AObj)).map (rHP E)++fz E.F::L)):=by
  rw[hl];exact H3
 obtain⟨E',r1,r2,r3⟩:=dH (nx:=1) R.nx (by
  rw[y5t,<- nG i.i hu,<- nI i.j hu];exact(hxs.take _).append (hxs.drop _)) (λx hx=>by
   rcases y2f.1 hx with hx|hx
   ·exact hu x (y5p hx)
   ·exact hu x (y4o hx)) H4
 rw[hl]at r3;refine⟨_,rfl,_,y2l.2 rfl,(),trivial,E',r1,r3,⟨r2.nx,?_⟩⟩;exact((@vR k w' True _).2 ⟨trivial,r2.hp⟩).imp (B:=rHP E' (0,.gone)) λx hx=> .inl ⟨rfl,hx.2⟩
def mE (k:Int):List (Int×Place)->List (Int×Place)
 |[]=>[]
 |(a,b)::l=>if k=a then l else(a,b)::mE k l
structure DrI where
 b:Book
 id:Int
 price:Int
 slot:Int
def Book.unhas (b:Book) (s id:Int):Book:=if b.hasF s=ax/\b.topI s=id then(if s=1 then{b with has1:=ay}else{b with has2:=ay})else b
def Book.dropF (b:Book) (s id price:Int):Book:=
 if(b.a.qAt ((b.rungs s).getD (zY s (b.rungs s) price) ⟨0,0⟩).queue).count=0 then
  ({b.unhas s id with at_:=mE id b.at_,spare:=b.spare++[((b.rungs s).getD (zY s (b.rungs s) price) ⟨0,0⟩).queue]}:Book).setR s ((b.rungs s).take (zY s (b.rungs s) price)++(b.rungs s).drop (zY s (b.rungs s) price+1))
 else{b.unhas s id with at_:=mE id b.at_}
def yHk (b:Book):AObj:= .cells [.nm 1 0,.own 6,.own 7,.mp 4,zA b.top1,zA b.top2,.own 8,yT b.has1,yT b.has2] 245
@[reducible] def yMy (b:Book):List AObj:=[yHk b,zO b 1,.gone,.gone,zO b 4,.gone,zO b 2,zO b 3,zO b 5]
@[reducible] def DrI.ok (i:DrI) (s:Int):Prop:=i.b.small/\zY s (i.b.rungs s) i.price<(i.b.rungs s).length
def yGo (s:Int):Con:=zR DrI (λi=>[.nm 0 0,zA i.id,.agg [zA s,zA i.price,zA i.slot]]) (λi=>zHz i.b) (λi=>i.ok s) (λ_=>aU) (λi=>yMy (i.b.dropF s i.id i.price))
def drop1C:Con:=yGo 1
def drop2C:Con:=yGo 2
structure DrJ where
 i:DrI
 s:Bool
def dropC:Con:=zR DrJ (λj=>[.nm 0 0,zA j.i.id,.agg [zA (zC j.s),zA j.i.price,zA j.i.slot]]) (λj=>zHz j.i.b) (λj=>j.i.ok (zC j.s)) (λ_=>aU) (λj=>yMy (j.i.b.dropF (zC j.s) j.i.id j.i.price))
def delRC:Con:=yPh 255 2
def yRr:zG:=⟨0,0,0,0,ay⟩
def fV (L:List zG) (id:Int):zG:=(L.find? λo=>decide (o.id=id)).getD yRr
def vX (L:List zG) (id q:Int):List zG:=L.filterMap λo=>if o.id=id then(if o.qty=q then ba else az {o with qty:=o.qty-q})else az o
def xR (L:List zG) (id q:Int):List zG×Int:=if jU L id=ay then(L,26)else if q<1\/(fV L id).qty<q then(L,24)else(vX L id q,0)
def atL (L:List zG) (s p:Int):List zG:=L.filter λo=>decide (o.side=s) && decide (o.price=p)
def grp:List zG->List Lv
 |[]=>[]
 |o::l=>match grp l with
  |[]=>[⟨o.price,o.qty,1⟩]
  |v::vs=>if v.price=o.price then⟨v.price,o.qty+v.qty,v.count+1⟩::vs else⟨o.price,o.qty,1⟩::v::vs
def uD (L:List zG) (s:Int):List Lv:=grp (L.filter λo=>decide (o.side=s))
def bestL (L:List zG) (s:Int):Lv×Bool:=match uD L s with
 |[]=>(⟨0,0,0⟩,ay)
 |v::_=>(v,ax)
structure BkL where
 b:Book
 L:List zG
structure FlI where
 b:Book
 L:List zG
 id:Int
 qty:Int
structure AtI where
 b:Book
 L:List zG
 s:Bool
 price:Int
def fillC:Con where
 ι:=FlI
 pat:=λi=>[.nm 0 0,zA i.id,zA i.qty]
 pre:=λi=>[z6 i.b]
 cnd:=λi=>i.b.Rep i.L
 alts:=λi=>[{o:=Book,res:=λ_=>zA (xR i.L i.id i.qty).2,post:=λb=>[z6 b],rel:=λb=>b.Rep (xR i.L i.id i.qty).1}]
def bfindC:Con:=zR FlI (λi=>[.nm 0 0,zA i.id]) (λi=>[z6 i.b]) (λi=>i.b.Rep i.L) (λi=> .tup [z0x (fV i.L i.id),yT (jU i.L i.id)]) (λi=>[z6 i.b])
def yYf (s:Bool):Con:=zR AtI (λi=>[.nm 0 0,zA (zC s),zA i.price]) (λi=>[z6 i.b]) (λi=>i.b.Rep i.L) (λ_=> .own 1) (λi=>[z6 i.b,.own 57 5 ((atL i.L (zC s) i.price).map j8)])
def at1C:Con:=yYf ay
def at2C:Con:=yYf ax
def atC:Con:=zR AtI (λi=>[.nm 0 0,zA (zC i.s),zA i.price]) (λi=>[z6 i.b]) (λi=>i.b.Rep i.L) (λ_=> .own 1) (λi=>[z6 i.b,.own 57 5 ((atL i.L (zC i.s) i.price).map j8)])
def y4 (a:DrI):=(a.b.dropF 1 a.id a.price)
def zEv (a:BkP) (b:DrI):Prop:=a.b.has2=b.b.has2/\aq Arena 3 zF a.b.a=zO b.b 1/\aa zB a.b.buys=aa zB b.b.buys/\aa zB a.b.sells=aa zB b.b.sells/\atE a.b.at_=lV (bz bo b.id) (atE b.b.at_)/\iE a.b.spare=iE b.b.spare/\(xW a)/\∀(c:Unit),True->(uX a)/\∃(d:Int),zE (aa zB a.b.buys) (xM a).toNat 1 1=az [dI d]/\∃(e:ArN),e.n=d/\aq Arena 3 zF e.a=aq Arena 3 zF a.b.a/\True/\∀(f:Unit),True->cnd ((e.a.qAt e.n).count==0) (((iE a.b.spare).length+1)*(8:Nat)<=(140737488355328:Nat)/\∃(g:yPw),(↑g.i:Int)=(xM a)/\(↑g.j:Int)=bo.wrap ((xM a)+1)/\g.els=aa zB a.b.buys/\(g.i<g.j/\g.j<=g.els.length)/\∀(h:Unit),True->da ((1:Int))/\∃(j:Unit),(y4 b).top1=a.b.top1/\(y4 b).top2=a.b.top2/\(y4 b).has1=a.b.has1/\(y4 b).has2=a.b.has2/\aq Arena 3 zF (y4 b).a=aq Arena 3 zF e.a/\atE (y4 b).at_=atE a.b.at_/\aa zB (y4 b).buys=ac g.i g.els++ap g.j g.els/\aa zB (y4 b).sells=aa zB a.b.sells/\iE (y4 b).spare=iE a.b.spare++[[dI d]]/\True) (∃(g:Unit),(y4 b).top1=a.b.top1/\(y4 b).top2=a.b.top2/\(y4 b).has1=a.b.has1/\(y4 b).has2=a.b.has2/\aq Arena 3 zF (y4 b).a=aq Arena 3 zF e.a/\atE (y4 b).at_=atE a.b.at_/\aa zB (y4 b).buys=aa zB a.b.buys/\aa zB (y4 b).sells=aa zB a.b.sells/\iE (y4 b).spare=iE a.b.spare/\True)
def zFk (a:DrI):Prop:=∃(b:BkP),da ((1:Int))/\b.price=a.price/\b.b.top1=a.b.top1/\b.b.top2=a.b.top2/\b.b.has1=a.b.has1/\zEv b a
def z9u (i:DrI):Prop:=
 (∀(a:bp×List D),a∈atE i.b.at_->like (bz bo i.id) a.fst=ax)/\cnd i.b.has1 (cnd (i.b.top1==i.id) (∃(a:BkP),da ((1:Int))/\a.price=i.price/\a.b.top1=i.b.top1/\a.b.top2=i.b.top2/\a.b.has1=ay/\zEv a i) (zFk i)) (zFk i)
def y5 (a:DrI):=(a.b.dropF 2 a.id a.price)
def zGc (a:BkP) (b:DrI):Prop:=aq Arena 3 zF a.b.a=zO b.b 1/\aa zB a.b.buys=aa zB b.b.buys/\aa zB a.b.sells=aa zB b.b.sells/\atE a.b.at_=lV (bz bo b.id) (atE b.b.at_)/\iE a.b.spare=iE b.b.spare/\(xW a)/\∀(c:Unit),True->(hP a)/\∃(d:Int),zE (aa zB a.b.sells) (xL a).toNat 1 1=az [dI d]/\∃(e:ArN),e.n=d/\aq Arena 3 zF e.a=aq Arena 3 zF a.b.a/\True/\∀(f:Unit),True->cnd ((e.a.qAt e.n).count==0) (((iE a.b.spare).length+1)*(8:Nat)<=(140737488355328:Nat)/\∃(g:yPw),(↑g.i:Int)=(xL a)/\(↑g.j:Int)=bo.wrap ((xL a)+1)/\g.els=aa zB a.b.sells/\(g.i<g.j/\g.j<=g.els.length)/\∀(h:Unit),True->da ((2:Int))/\∃(j:Unit),(y5 b).top1=a.b.top1/\(y5 b).top2=a.b.top2/\(y5 b).has1=a.b.has1/\(y5 b).has2=a.b.has2/\aq Arena 3 zF (y5 b).a=aq Arena 3 zF e.a/\atE (y5 b).at_=atE a.b.at_/\aa zB (y5 b).buys=aa zB a.b.buys/\aa zB (y5 b).sells=ac g.i g.els++ap g.j g.els/\iE (y5 b).spare=iE a.b.spare++[[dI d]]/\True) (∃(g:Unit),(y5 b).top1=a.b.top1/\(y5 b).top2=a.b.top2/\(y5 b).has1=a.b.has1/\(y5 b).has2=a.b.has2/\aq Arena 3 zF (y5 b).a=aq Arena 3 zF e.a/\atE (y5 b).at_=atE a.b.at_/\aa zB (y5 b).buys=aa zB a.b.buys/\aa zB (y5 b).sells=aa zB a.b.sells/\iE (y5 b).spare=iE a.b.spare/\True)
def zFx (a:DrI):Prop:=∃(b:BkP),da ((2:Int))/\b.price=a.price/\b.b.top1=a.b.top1/\b.b.top2=a.b.top2/\b.b.has1=a.b.has1/\b.b.has2=a.b.has2/\zGc b a
def yEj (i:DrI):Prop:=
 (∀(a:bp×List D),a∈atE i.b.at_->like (bz bo i.id) a.fst=ax)/\cnd i.b.has2 (cnd (i.b.top2==i.id) (∃(a:BkP),da ((2:Int))/\a.price=i.price/\a.b.top1=i.b.top1/\a.b.top2=i.b.top2/\a.b.has1=i.b.has1/\a.b.has2=ay/\zGc a i) (zFx i)) (zFx i)
def zAt (a:FlI):Prop:=aa zB a.b.buys=aa zB a.b.buys/\da (aa zB a.b.sells)/\da (atE a.b.at_)/\da (iE a.b.spare)/\True
def zHa (a:Int) (b:FlI) (c:Int) (d:Int):Prop:=∃(e:ArN),e.n=a/\aq Arena 3 zF e.a=aq Arena 3 zF b.b.a/\e.a.slots.length<=1000000/\∀(f:Unit),True->∃(g:Unit),(fV b.L b.id).id=b.id/\(fV b.L b.id).side=c/\(fV b.L b.id).price=d/\(fV b.L b.id).qty=(e.a.getF e.n).fst.qty/\(fV b.L b.id).top=(e.a.getF e.n).fst.top/\jU b.L b.id=ax/\da b.b.top1/\da b.b.top2/\da b.b.has1/\da b.b.has2/\aq Arena 3 zF b.b.a=aq Arena 3 zF e.a/\zAt b
def nV (a:FlI) (b:Int) (c:Int) (d:Int) (e:Bool):Prop:=qQ (bz bo a.id) (atE a.b.at_)=az [dI b,dI c,dI d]/\e=ax\/qQ (bz bo a.id) (atE a.b.at_)=ba/\[dI b,dI c,dI d]=[dI 0,dI 0,dI 0]/\e=ay
def yCz (i:FlI):Prop:=
 (∀(a:bp×List D),a∈atE i.b.at_->like (bz bo i.id) a.fst=ax)/\∃(a:Bool),∃(b:Int),∃(c:Int),∃(d:Int),(nV i b c d a)/\cnd (!a) (∃(e:Unit),(fV i.L i.id).id=0/\(fV i.L i.id).side=0/\(fV i.L i.id).price=0/\(fV i.L i.id).qty=0/\(fV i.L i.id).top=ay/\jU i.L i.id=ay/\da i.b.top1/\da i.b.top2/\da i.b.has1/\da i.b.has2/\da (aq Arena 3 zF i.b.a)/\zAt i) ((zHa d i b c)/\d=d/\True/\zHa d i b c)
def lS (a:Book) (b:FlI):Prop:=aa zB a.buys=aa zB b.b.buys/\aa zB a.sells=aa zB b.b.sells/\atE a.at_=atE b.b.at_/\iE a.spare=iE b.b.spare/\a.Rep (xR b.L b.id b.qty).fst
def wF (a:DrJ):=(a.i.b.dropF (zC a.s) a.i.id a.i.price)
def zKm (a:FlI) (b:Int) (c:Int) (d:Int) (e:ArN):Prop:=∃(f:DrJ),f.i.id=a.id/\zC f.s=b/\f.i.price=c/\f.i.slot=d/\f.i.b.top1=a.b.top1/\f.i.b.top2=a.b.top2/\f.i.b.has1=a.b.has1/\f.i.b.has2=a.b.has2/\aq Arena 3 zF f.i.b.a=aq Arena 3 zF e.a/\aa zB f.i.b.buys=aa zB a.b.buys/\aa zB f.i.b.sells=aa zB a.b.sells/\atE f.i.b.at_=atE a.b.at_/\iE f.i.b.spare=iE a.b.spare/\(((f.i.b.a.slots.length<=1000000/\f.i.b.a.queues.length<=1000000)/\f.i.b.buys.length<=1000000/\f.i.b.sells.length<=1000000/\f.i.b.spare.length<=1000000)/\zY (zC f.s) (f.i.b.rungs (zC f.s)) f.i.price<(f.i.b.rungs (zC f.s)).length)/\∀(g:Unit),True->∃(h:Book),(xR a.L a.id a.qty).snd=0/\h.top1=(wF f).top1/\h.top2=(wF f).top2/\h.has1=(wF f).has1/\h.has2=(wF f).has2/\aq Arena 3 zF h.a=aq Arena 3 zF (wF f).a/\aa zB h.buys=aa zB (wF f).buys/\aa zB h.sells=aa zB (wF f).sells/\atE h.at_=atE (wF f).at_/\iE h.spare=iE (wF f).spare/\h.Rep (xR a.L a.id a.qty).fst
def zSl (a:Int) (b:TkI) (c:FlI) (d:Int) (e:Int):Prop:=∃(f:ArN),f.n=a/\aq Arena 3 zF f.a=aq Arena 3 zF (b.a.takeF b.n b.qty).fst/\f.a.slots.length<=1000000/\∀(g:Unit),True->cnd (!(f.a.getF f.n).snd) (zKm c d e a f) (cnd ((f.a.getF f.n).fst.id !=c.id) (zKm c d e a f) (∃(h:Book),(xR c.L c.id c.qty).snd=0/\h.top1=c.b.top1/\h.top2=c.b.top2/\h.has1=c.b.has1/\h.has2=c.b.has2/\aq Arena 3 zF h.a=aq Arena 3 zF f.a/\lS h c))
def yNo (i:FlI):Prop:=
 (∀(a:bp×List D),a∈atE i.b.at_->like (bz bo i.id) a.fst=ax)/\∃(a:Bool),∃(b:Int),∃(c:Int),∃(d:Int),(nV i b c d a)/\cnd (!a) (∃(e:Book),(xR i.L i.id i.qty).snd=26/\e.top1=i.b.top1/\e.top2=i.b.top2/\e.has1=i.b.has1/\e.has2=i.b.has2/\aq Arena 3 zF e.a=aq Arena 3 zF i.b.a/\lS e i) (∃(e:TkI),e.n=d/\e.qty=i.qty/\aq Arena 3 zF e.a=aq Arena 3 zF i.b.a/\(e.a.slots.length<=1000000/\∀(k:Nat) (s:Slot),e.a.slots[k]?=az s->s.used=ax->(0<=s.queue/\s.queue<(↑e.a.queues.length:Int))/\s.qty<=1000000/\(s.ahead=(-1)\/0<=s.ahead/\s.ahead<(↑e.a.slots.length:Int)/\s.ahead≠(↑k:Int))/\(s.back=(-1)\/0<=s.back/\s.back<(↑e.a.slots.length:Int)/\s.back≠(↑k:Int)))/\∀(f:Unit),True->cnd ((e.a.takeF e.n e.qty).snd !=0) (∃(g:Book),(xR i.L i.id i.qty).snd=(e.a.takeF e.n e.qty).snd/\g.top1=i.b.top1/\g.top2=i.b.top2/\g.has1=i.b.has1/\g.has2=i.b.has2/\aq Arena 3 zF g.a=aq Arena 3 zF (e.a.takeF e.n e.qty).fst/\lS g i) ((zSl d e i b c)/\d=d/\True/\zSl d e i b c))
def yUl (i:AtI):Prop:=
 ∃(a:Int),a=zC ay/\True/\∀(b:Unit),True->cnd (qG a) (∃(c:Unit),da i.b.top1/\da i.b.top2/\da i.b.has1/\da i.b.has2/\da (aq Arena 3 zF i.b.a)/\da (aa zB i.b.buys)/\da (aa zB i.b.sells)/\da (atE i.b.at_)/\da (iE i.b.spare)/\aa j8 (atL i.L (zC ay) i.price)=[]/\True) (∃(c:BkP),1=zC ay/\c.price=i.price/\c.b.top1=i.b.top1/\c.b.top2=i.b.top2/\c.b.has1=i.b.has1/\c.b.has2=i.b.has2/\aq Arena 3 zF c.b.a=aq Arena 3 zF i.b.a/\aa zB c.b.buys=aa zB i.b.buys/\aa zB c.b.sells=aa zB i.b.sells/\atE c.b.at_=atE i.b.at_/\iE c.b.spare=iE i.b.spare/\(xW c)/\∀(d:Unit),True->cnd (!qU 1 (c.b.rungs 1) c.price) (∃(e:Unit),i.b.top1=c.b.top1/\i.b.top2=c.b.top2/\i.b.has1=c.b.has1/\i.b.has2=c.b.has2/\aq Arena 3 zF i.b.a=aq Arena 3 zF c.b.a/\aa zB i.b.buys=aa zB c.b.buys/\aa zB i.b.sells=aa zB c.b.sells/\atE i.b.at_=atE c.b.at_/\iE i.b.spare=iE c.b.spare/\aa j8 (atL i.L (zC ay) i.price)=[]/\True) ((uX c)/\∃(e:Int),∃(f:Int),zE (aa zB c.b.buys) (xM c).toNat 0 2=az [dI e,dI f]/\∃(g:BoI),g.s=zC ay/\g.r.price=e/\g.r.queue=f/\g.b.top1=c.b.top1/\g.b.top2=c.b.top2/\g.b.has1=c.b.has1/\g.b.has2=c.b.has2/\aq Arena 3 zF g.b.a=aq Arena 3 zF c.b.a/\aa zB g.b.buys=aa zB c.b.buys/\aa zB g.b.sells=aa zB c.b.sells/\atE g.b.at_=atE c.b.at_/\iE g.b.spare=iE c.b.spare/\g.b.a.listOk g.r.queue g.l/\∀(h:Unit),True->∃(j:Unit),z6 i.b=z6 g.b/\aa j8 (atL i.L (zC ay) i.price)=aa j8 g.ords/\True))
def yWl (i:AtI):Prop:=
 ∃(a:Int),a=zC ax/\True/\∀(b:Unit),True->cnd (qG a) (∃(c:Unit),da i.b.top1/\da i.b.top2/\da i.b.has1/\da i.b.has2/\da (aq Arena 3 zF i.b.a)/\da (aa zB i.b.buys)/\da (aa zB i.b.sells)/\da (atE i.b.at_)/\da (iE i.b.spare)/\aa j8 (atL i.L (zC ax) i.price)=[]/\True) (∃(c:BkP),2=zC ax/\c.price=i.price/\c.b.top1=i.b.top1/\c.b.top2=i.b.top2/\c.b.has1=i.b.has1/\c.b.has2=i.b.has2/\aq Arena 3 zF c.b.a=aq Arena 3 zF i.b.a/\aa zB c.b.buys=aa zB i.b.buys/\aa zB c.b.sells=aa zB i.b.sells/\atE c.b.at_=atE i.b.at_/\iE c.b.spare=iE i.b.spare/\(xW c)/\∀(d:Unit),True->cnd (!qU 2 (c.b.rungs 2) c.price) (∃(e:Unit),i.b.top1=c.b.top1/\i.b.top2=c.b.top2/\i.b.has1=c.b.has1/\i.b.has2=c.b.has2/\aq Arena 3 zF i.b.a=aq Arena 3 zF c.b.a/\aa zB i.b.buys=aa zB c.b.buys/\aa zB i.b.sells=aa zB c.b.sells/\atE i.b.at_=atE c.b.at_/\iE i.b.spare=iE c.b.spare/\aa j8 (atL i.L (zC ax) i.price)=[]/\True) ((hP c)/\∃(e:Int),∃(f:Int),zE (aa zB c.b.sells) (xL c).toNat 0 2=az [dI e,dI f]/\∃(g:BoI),g.s=zC ax/\g.r.price=e/\g.r.queue=f/\g.b.top1=c.b.top1/\g.b.top2=c.b.top2/\g.b.has1=c.b.has1/\g.b.has2=c.b.has2/\aq Arena 3 zF g.b.a=aq Arena 3 zF c.b.a/\aa zB g.b.buys=aa zB c.b.buys/\aa zB g.b.sells=aa zB c.b.sells/\atE g.b.at_=atE c.b.at_/\iE g.b.spare=iE c.b.spare/\g.b.a.listOk g.r.queue g.l/\∀(h:Unit),True->∃(j:Unit),z6 i.b=z6 g.b/\aa j8 (atL i.L (zC ax) i.price)=aa j8 g.ords/\True))
def pT {L:List zG} (h:(L.map (·.id)).Nodup) {o:zG} (ho:o∈L):fV L o.id=o:=by
 induction L with
 |nil=>cases ho
 |cons x L ih=>
  rw[y1m,y3l]at h;rw[fV,y6s];rcases y1r.1 ho with rfl|ho
  ·rw[y1v rfl];rfl
  ·have:x.id≠o.id:=λe=>h.1 (e▸y2c (f:=(·.id)) ho)
   rw[y1s this];exact ih h.2 ho
def bY {α β:Type} {f g:α->Option β}:∀{l:List α},(∀x∈l,f x=g x)->l.filterMap f=l.filterMap g
 |[],_=>rfl
 |x::l,h=>by rw[List.filterMap_cons,List.filterMap_cons,h x y1f,bY λy hy=>h y (y1g _ hy)]
def yTm {L:List zG} {id:Int} (h:jU L id=ay):fV L id=yRr:=by
 rw[fV];have:L.find? (λo=>decide (o.id=id))=ba:=by
  rw[List.find?_eq_none];intro o ho;rw[jU,List.any_eq_false]at h;exact h o ho
 rw[this];rfl
structure Told (b:Book) (Q:List (List Nat)) (id:Int) (s:Int) (r:xC) (k:Nat):Prop where
 hs:s=1\/s=2
 hr:r∈b.rungs s
 hk:k∈y6 Q r
 e:pget b.at_ id=az ⟨s,r.price,k⟩
 ident:(b.a.slotAt k).id=id
 get:fV (b.flat Q) id=j9 b.a s r.price k
 has:jU (b.flat Q) id=ax
def yKv {b:Book} {Q:List (List Nat)} {s:Int} (hs:s=1\/s=2) {r:xC} (hr:r∈b.rungs s) {k:Nat} (hk:k∈y6 Q r):j9 b.a s r.price k∈b.flat Q:=
 flat_mem hs (y3t.2 ⟨r,hr,y2c hk⟩)
def Book.Core.told {b:Book} {Q:List (List Nat)} (c:b.Core Q (-1)) (id:Int):(pget b.at_ id=ba/\jU (b.flat Q) id=ay)\/∃s r k,Told b Q id s r k:=by
 cases hg:pget b.at_ id with
 |none=>
  have:=zEt hg;rw[c.keysP.mem_iff,<- hasId_iff]at this;exact .inl ⟨rfl,by simpa using this⟩
 |some x=>
  obtain⟨k,r,hs,hr,hk,hx,hid⟩:=c.plcI (sY hg);have hm:=yKv hs hr hk;have hget:=pT c.ids hm;have e:(j9 b.a x.side r.price k).id=id:=hid;rw[e]at hget;exact .inr ⟨x.side,r,k,hs,hr,hk,by rw[hg];exact congrArg az hx,hid,hget,hasId_iff.2 (by rw[<- e];exact y2c hm)⟩
def Told.only {b:Book} {Q:List (List Nat)} (c:b.Core Q (-1)) {id s:Int} {r:xC} {k:Nat} (h:Told b Q id s r k) {s':Int} (hs':s'=1\/s'=2) {r':xC} (hr':r'∈b.rungs s') {j:Nat} (hj:j∈y6 Q r'):(b.a.slotAt j).id=id↔j=k:=by
 constructor
 ·intro e;have h1:=c.plc hs' hr' hj;have h2:=c.plc h.hs h.hr h.hk;rw[e]at h1;rw[h.ident]at h2;have:=congrArg Place.slot (zIq c.keys h1 h2);dsimp only at this;omega
 ·rintro rfl;exact h.ident
def Book.Core.less {b:Book} {Q:List (List Nat)} (c:b.Core Q (-1)) (ht:b.Tops (b.flat Q)) {id s:Int} {r:xC} {k:Nat} (h:Told b Q id s r k) {q:Int} (hq:1<=q/\q<(b.a.slotAt k).qty):
 (b.a.takeF k q).2=0/\({b with a:=(b.a.takeF k q).1}:Book).Rep (vX (b.flat Q) id q)/\(b.a.takeF k q).1.slots.length=250/\(b.a.takeF k q).1.getF k=((((b.a.takeF k q).1.slotAt k)).ent,ax)/\((b.a.takeF k q).1.slotAt k).id=id:=by
 obtain⟨t1,t2,t3⟩:=c.wf.take (c.get h.hs h.hr) h.hk (q:=q) ⟨hq.1,oM⟩;rw[y0y (by omega)]at t3;obtain⟨w,t4,t5⟩:=t3;have hent:∀j,((b.a.takeF k q).1.slotAt j).ent=if j=k then{(b.a.slotAt k).ent with qty:=(b.a.slotAt k).qty-q}else(b.a.slotAt j).ent:=by
  intro j;split
  ·rename_i e;rw[e,t4];rfl
  ·rename_i e;exact(t2 j e).1
 have hid:∀j,((b.a.takeF k q).1.slotAt j).id=(b.a.slotAt j).id:=by
  intro j;have:=congrArg Ent.id (hent j);split at this
  ·rename_i e;rw[e]at this ⊢;exact this
  ·exact this
 have hflat:({b with a:=(b.a.takeF k q).1}:Book).flat Q=vX (b.flat Q) id q:=by
  have side:∀s',s'=1\/s'=2->({b with a:=(b.a.takeF k q).1}:Book).sideL Q s'=vX (b.sideL Q s') id q:=by
   intro s' hs';rw[vX,Book.sideL,Book.sideL,List.filterMap_flatMap];refine y7 λr' hr'=> ?_
   rw[Book.rOrds,Book.rOrds,List.filterMap_map];have:(y6 Q r').filterMap (λj=>az (j9 (b.a.takeF k q).1 s' r'.price j))=(y6 Q r').map (j9 (b.a.takeF k q).1 s' r'.price):=by rw[<- List.filterMap_eq_map];rfl
   refine this.symm.trans (bY λj hj=> ?_);simp only[ce,j9,yBg,hent];have hon:=h.only c hs' hr' hj;by_cases e:j=k
   ·subst e;rw[y1a rfl];refine((y1a (show(b.a.slotAt j).ent.id=id from h.ident)).trans (y0y λe=> ?_)).symm;have e:(b.a.slotAt j).qty=q:=e;omega
   ·rw[y0y e];exact(y0y (λe2=>e (hon.1 e2))).symm
  rw[Book.flat,side 1 (.inl rfl),side 2 (.inr rfl),Book.flat,vX,vX,vX,List.filterMap_append]
 have hu:(b.a.takeF k q).1.usedAt k=ax:=by
  obtain⟨hk2,⟨_,_,h2⟩,h3⟩:=w.toWf0.mem (c.get h.hs h.hr) h.hk;have hlt:=w.len;simp only[Arena.usedAt,y1l,y2v,y1o];exact⟨oM,oM,h2.used⟩
 refine⟨t1,⟨Q,c.flag w hid,⟨λo ho=> ?_,λs' hs' hh=> ?_⟩,hflat.symm⟩,w.len,by rw[Arena.getF,y1a hu,y1o],by rw[hid,h.ident]⟩
 ·obtain⟨o',ho',e⟩:=y6a.1 ho;have:=ht.fl o' ho';split at e
  ·split at e
   ·cases e
   ·cases e;exact this
  ·cases e;exact this
 ·obtain⟨o,ho,o1,o2⟩:=ht.th s' hs' hh;by_cases e:o.id=id
  ·refine⟨{o with qty:=o.qty-q},y6a.2 ⟨o,ho,?_⟩,o1,o2⟩;have hg:=pT c.ids ho;rw[e,h.get]at hg;rw[y1a e,y0y (λe2=>by
    rw[<- hg]at e2;have:(b.a.slotAt k).qty=q:=e2;omega)]
  ·exact⟨o,y6a.2 ⟨o,ho,y0y e⟩,o1,o2⟩
def z2v:∀{l:List (Int×Place)} {k:Int},(l.map (·.1)).Nodup->mE k l=l.filter λx=> !decide (x.1=k)
 |[],k,_=>rfl
 |(a,b)::l,k,h=>by
  rw[y1m,y3l]at h;rw[mE];by_cases e:k=a
  ·subst e;rw[y1a rfl,y5s (by simp)];symm;rw[y6k];intro x hx;have:x.1≠k:=λe=>h.1 (e▸y2c (f:=(·.1)) hx)
   simp[this]
  ·rw[y0y e,y5r (by simp[Ne.symm e]),z2v h.2]
def zCl {l:List Nat} (h:l.Nodup) (k:Nat):l.erase k=l.filter λj=> !decide (j=k):=by
 rw[h.erase_eq_filter];refine List.filter_congr λj _=> ?_
 simp[bne,BEq.beq]
def yFx {s:Int} {l:List xC} (hs:l.Pairwise λr r'=>btr s r.price r'.price=ax) {R1 R2:List xC} {r:xC} (hl:l=R1++r::R2):zY s l r.price=R1.length:=by
 subst hl;rw[af]at hs;refine nH (by simp) (λk hk x hx=> ?_) (λx hx=> ?_)
 ·rw[y3r hk]at hx;exact hs.2.2 x (y1j hx) r y1f
 ·rw[y3c (y1u _),y6g]at hx;cases hx;exact eR _ _
def yDe (b:Book) (id:Int) {s:Int} (hs:s=1\/s=2):(b.unhas s id).a=b.a/\(b.unhas s id).buys=b.buys/\(b.unhas s id).sells=b.sells/\(b.unhas s id).spare=b.spare/\∀s',s'=1\/s'=2->(b.unhas s id).topI s'=b.topI s'/\(b.unhas s id).hasF s'=if s'=s/\b.topI s=id then ay else b.hasF s':=by
 rw[Book.unhas];by_cases hc:b.hasF s=ax/\b.topI s=id
 ·rw[y1a hc];rcases hs with rfl|rfl
  ·exact(rF4 (λs' h=>by rcases h with rfl|rfl;exact⟨rfl,(y1a ⟨rfl,hc.2⟩).symm⟩;exact⟨rfl,(y0y (λe=>absurd e.1 Z8)).symm⟩))
  ·exact(rF4 (λs' h=>by rcases h with rfl|rfl;exact⟨rfl,(y0y (λe=>absurd e.1 Z8)).symm⟩;exact⟨rfl,(y1a ⟨rfl,hc.2⟩).symm⟩))
 ·rw[y0y hc];refine(rF4 (λs' h=>⟨rfl,?_⟩));split
  ·rename_i e;rw[e.1];cases hh:b.hasF s with
   |false=>rfl
   |true=>exact absurd ⟨hh,e.2⟩ hc
  ·rfl
def Book.Core.close {b:Book} {Q:List (List Nat)} {s:Int} (hs:s=1\/s=2) {r:xC} {R1 R2:List xC} (hr:b.rungs s=R1++r::R2) (c:b.Core Q r.queue) (he:y6 Q r=[]) {b':Book} (hb:b'=({b with spare:=b.spare++[r.queue]}:Book).setR s (R1++R2)):
 b'.Core Q (-1)/\b'.flat Q=b.flat Q:=by
 obtain⟨g1,g2⟩:=zJy ({b with spare:=b.spare++[r.queue]}:Book) hs (R1++R2);rw[<- hb]at g1 g2;have ha:b'.a=b.a:=by rw[hb];rcases hs with rfl|rfl<;>rfl
 have hat:b'.at_=b.at_:=by rw[hb];rcases hs with rfl|rfl<;>rfl
 have hsp:b'.spare=b.spare++[r.queue]:=by rw[hb];rcases hs with rfl|rfl<;>rfl
 have hqs:b'.qs.Perm b.qs:=by
  rw[hb];rcases hs with rfl|rfl
  ·have hr:b.buys=R1++r::R2:=hr;show((R1++R2).map (·.queue)++b.sells.map (·.queue)++(b.spare++[r.queue])).Perm (b.buys.map (·.queue)++b.sells.map (·.queue)++b.spare)
   rw[hr,<- y1e];refine(y5h _ _).trans ?_;simp only[y1i,y1m,y1e,y2p];exact y1n.symm
  ·have hr:b.sells=R1++r::R2:=hr;show(b.buys.map (·.queue)++(R1++R2).map (·.queue)++(b.spare++[r.queue])).Perm (b.buys.map (·.queue)++b.sells.map (·.queue)++b.spare)
   rw[hr,<- y1e];refine(y5h _ _).trans ?_;simp only[y1i,y1m,y1e,y2p];refine .trans ?_ (cg _ y1n.symm);exact y1n.symm
 have hside:∀s',s'=1\/s'=2->b'.sideL Q s'=b.sideL Q s':=by
  intro s' hs';have ho:∀x,b'.rOrds Q s' x=b.rOrds Q s' x:=λx=>by rw[Book.rOrds,Book.rOrds,ha]
  rw[Book.sideL,Book.sideL];by_cases e:s'=s
  ·subst e;rw[g1,hr,y2u,y2u,y2q,y7 (λx _=>ho x),y7 (l:=R2) (λx _=>ho x)];rw[show b.rOrds Q s' r=[]by rw[Book.rOrds,he];rfl,y3k]
  ·rw[g2 s' e hs'];exact y7 λx _=>ho x
 have hplc:∀s',s'=1\/s'=2->b'.plcs Q s'=b.plcs Q s':=by
  intro s' hs';rw[Book.plcs,Book.plcs,ha];by_cases e:s'=s
  ·subst e;rw[g1,hr,y2u,y2u,y2q,he,y4q,y3k]
  ·rw[g2 s' e hs'];rfl
 have hflat:b'.flat Q=b.flat Q:=by rw[Book.flat,Book.flat,hside 1 (.inl rfl),hside 2 (.inr rfl)]
 have hnd:=hqs.nodup_iff.2 c.nd;have hmid:r.queue∉(R1++R2).map (·.queue):=by
  intro hm;have h1:r.queue∈(b'.rungs s).map (·.queue):=by rw[g1];exact hm
  rw[Book.qs]at hnd;have h2:=(y3g.1 hnd).2.2 r.queue (by
   rcases hs with rfl|rfl
   ·exact y2t _ h1
   ·exact y3a _ h1) r.queue (by rw[hsp];simp)
  exact h2 rfl
 refine⟨⟨by rw[ha];exact c.wf,λs' hs'=> ?_,λq hq=>c.rng q (hqs.mem_iff.1 hq),hnd,by rw[hqs.length_eq];exact c.ql,λs' hs' x hx _=> ?_,λq hq=> ?_,by rw[hat,hplc 1 (.inl rfl),hplc 2 (.inr rfl)];exact c.at_,by rw[hflat];exact c.ids,c.qb⟩,hflat⟩
 ·by_cases e:s'=s
  ·subst e;have:=c.srt s' hs';rw[hr]at this;rw[g1];exact this.sublist (List.Sublist.append_left (List.sublist_cons_self _ _) _)
  ·rw[g2 s' e hs'];exact c.srt s' hs'
 ·by_cases e:s'=s
  ·subst e;rw[g1]at hx;refine c.ne s' hs' x (by rw[hr];rcases y2f.1 hx with h|h;exact y2t _ h;exact y3a _ (y1g _ h)) λe2=>hmid (e2▸y2c (f:=(·.queue)) hx)
  ·rw[g2 s' e hs']at hx;refine c.ne s' hs' x hx λe2=> ?_
   have h1:r.queue∈(b'.rungs s').map (·.queue):=by rw[g2 s' e hs',<- e2];exact y2c (f:=(·.queue)) hx
   rw[Book.qs]at hnd;exact(y3g.1 hnd).2.2 r.queue (by
    rcases hs' with rfl|rfl
    ·exact y2t _ h1
    ·exact y3a _ h1) r.queue (by rw[hsp];simp) rfl
 ·rw[hsp]at hq;rcases y2f.1 hq with hq|hq
  ·exact c.sp q hq
  ·rw[y2l.1 hq];exact he
def zPe {L:List zG} (h:(L.map (·.id)).Nodup) {id:Int} (hh:jU L id=ax):vX L id (fV L id).qty=L.filter λo=> !decide (o.id=id):=by
 rw[vX,<- List.filterMap_eq_filter];refine bY λo ho=> ?_
 by_cases e:o.id=id
 ·have hg:=pT h ho;rw[e]at hg;rw[y1a e,y1a (by rw[hg])];simp[Option.guard,e]
 ·rw[y0y e];simp[Option.guard,e]
def Book.Core.gone {b:Book} {Q:List (List Nat)} (c:b.Core Q (-1)) (ht:b.Tops (b.flat Q)) {id s:Int} {r:xC} {k:Nat} (h:Told b Q id s r k) {q:Int} (hq:1<=q/\q=(b.a.slotAt k).qty):
 (b.a.takeF k q).2=0/\(({b with a:=(b.a.takeF k q).1}:Book).dropF s id r.price).Rep (vX (b.flat Q) id q)/\(b.a.takeF k q).1.slots.length=250/\(b.a.takeF k q).1.queues.length=b.a.queues.length/\((b.a.takeF k q).1.getF k).2=ay/\zY s (b.rungs s) r.price<(b.rungs s).length:=by
 obtain⟨t1,t2,t3⟩:=c.wf.take (c.get h.hs h.hr) h.hk (q:=q) ⟨hq.1,oM⟩;rw[y1a hq.2.symm]at t3;obtain⟨w,t4,t5⟩:=t3;generalize hA:(b.a.takeF k q).1=a1 at*;have hget:=c.get h.hs h.hr;have hnQ:=(y1c.1 hget).1;have hrq:=c.rng _ (vY h.hs h.hr);generalize hQ':Q.set r.queue.toNat ((y6 Q r).erase k)=Q' at*;have hQl:Q'.length=Q.length:=by rw[<- hQ',y2d]
 have hnd:(y6 Q r).Nodup:=c.wf.nd _ _ hget;have hqd:∀s' (r':xC),(s'=1\/s'=2)->r'∈b.rungs s'->y6 Q' r'=(y6 Q r').erase k:=by
  intro s' r' hs' hr';by_cases e:r'.queue=r.queue
  ·have e1:y6 Q r'=y6 Q r:=by rw[y6,y6,e]
   rw[e1,y6,e,<- hQ'];exact zV (gJ hnQ)
  ·have h2:y6 Q' r'=y6 Q r':=by
    have:=c.rng _ (vY hs' hr');rw[y6,y6,y1h,y1h,<- hQ',wQ (by omega)]
   rw[h2];symm;refine List.erase_of_not_mem λhk=> ?_
   have:=c.wf.toWf0.one (c.get hs' hr') hget hk h.hk;have:=c.rng _ (vY hs' hr');omega
 have hQo:∀q:Int,0<=q->q≠r.queue->Q'.getD q.toNat []=Q.getD q.toNat []:=by
  intro q h0 hne;rw[<- hQ',y1h,wQ (by omega),y1h]
 obtain⟨u1,u2,u3,u4,u5⟩:=yDe ({b with a:=a1}:Book) id h.hs;obtain⟨b1,hb1⟩:∃b1:Book,b1={({b with a:=a1}:Book).unhas s id with at_:=mE id b.at_}:=⟨_,rfl⟩
 have v1:b1.a=a1:=by rw[hb1];exact u1
 have v2:b1.buys=b.buys:=by rw[hb1];exact u2
 have v3:b1.sells=b.sells:=by rw[hb1];exact u3
 have v4:b1.spare=b.spare:=by rw[hb1];exact u4
 have v5:b1.at_=mE id b.at_:=by rw[hb1]
 have v6:∀s',s'=1\/s'=2->b1.topI s'=b.topI s'/\b1.hasF s'=if s'=s/\b.topI s=id then ay else b.hasF s':=by
  intro s' hs';rw[hb1];exact u5 s' hs'
 have vr:∀s',b1.rungs s'=b.rungs s':=by intro s';rw[Book.rungs,Book.rungs,v2,v3]
 have vq:b1.qs=b.qs:=by rw[Book.qs,Book.qs,v2,v3,v4]
 have hord:∀s',s'=1\/s'=2->b1.sideL Q' s'=(b.sideL Q s').filter (λo=> !decide (o.id=id))/\b1.plcs Q' s'=(b.plcs Q s').filter λx=> !decide (x.1=id):=by
  intro s' hs';rw[Book.sideL,Book.sideL,Book.plcs,Book.plcs,vr,List.filter_flatMap,List.filter_flatMap];have key:∀r'∈b.rungs s',∀j∈y6 Q r',((b.a.slotAt j).id=id↔j=k)/\(j≠k->j9 a1 s' r'.price j=j9 b.a s' r'.price j/\wN a1 s' r'.price j=wN b.a s' r'.price j):=by
   intro r' hr' j hj;refine⟨h.only c hs' hr' hj,λe=> ?_⟩;have:=(t2 j e).1;refine⟨by rw[j9,j9,this],?_⟩;have:=congrArg Ent.id this;rw[wN,wN];exact congrArg (λi=>(i,(⟨s',r'.price,j⟩:Place))) this
  refine⟨y7 λr' hr'=> ?_,y7 λr' hr'=> ?_⟩
  ·rw[Book.rOrds,Book.rOrds,hqd s' r' hs' hr',zCl (c.wf.nd _ _ (c.get hs' hr')),List.filter_map,v1];have e1:(y6 Q r').filter ((λo:zG=> !decide (o.id=id))∘j9 b.a s' r'.price)=(y6 Q r').filter λj=> !decide (j=k):=by
    refine List.filter_congr λj hj=> ?_
    show(!decide ((b.a.slotAt j).id=id))=_;rw[decide_eq_decide.2 (key r' hr' j hj).1]
   rw[e1];refine y2g λj hj=> ?_
   rw[y2x]at hj;exact((key r' hr' j hj.1).2 (by simpa using hj.2)).1
  ·rw[hqd s' r' hs' hr',zCl (c.wf.nd _ _ (c.get hs' hr')),List.filter_map,v1];have e1:(y6 Q r').filter ((λx:Int×Place=> !decide (x.1=id))∘wN b.a s' r'.price)=(y6 Q r').filter λj=> !decide (j=k):=by
    refine List.filter_congr λj hj=> ?_
    show(!decide ((b.a.slotAt j).id=id))=_;rw[decide_eq_decide.2 (key r' hr' j hj).1]
   rw[e1];refine y2g λj hj=> ?_
   rw[y2x]at hj;exact((key r' hr' j hj.1).2 (by simpa using hj.2)).2
 have hflat:b1.flat Q'=(b.flat Q).filter λo=> !decide (o.id=id):=by
  rw[Book.flat,(hord 1 (.inl rfl)).1,(hord 2 (.inr rfl)).1,Book.flat,y4y]
 have hat:b1.at_.Perm (b1.plcs Q' 1++b1.plcs Q' 2):=by
  rw[v5,z2v c.keys,(hord 1 (.inl rfl)).2,(hord 2 (.inr rfl)).2,<- y4y];exact c.at_.filter _
 have hold:∀s' (r':xC),(s'=1\/s'=2)->r'∈b.rungs s'->y6 Q r'≠[]:=λs' r' hs' hr'=>c.ne s' hs' r' hr' λe=>by
  have:=c.rng _ (vY hs' hr');omega
 have c1:b1.Core Q' r.queue:=by
  refine⟨by rw[v1];exact w,λs' hs'=>by rw[vr];exact c.srt s' hs',by rw[vq,hQl];exact c.rng,by rw[vq];exact c.nd,by rw[vq,hQl];exact c.ql,λs' hs' r' hr' hne=> ?_,λq hq=> ?_,hat,?_,by rw[hQl];exact c.qb⟩
  ·rw[vr]at hr';have e:=hQo r'.queue (c.rng _ (vY hs' hr')).1 hne;rw[y6,e];exact hold s' r' hs' hr'
  ·rw[v4]at hq;have hqq:q∈b.qs:=y3a _ hq;rw[hQo q (c.rng q hqq).1 λe=> ?_]
   ·exact c.sp q hq
   ·have hcn:=c.nd;rw[Book.qs]at hcn;refine(y3g.1 hcn).2.2 r.queue ?_ q hq e.symm;rcases h.hs with rfl|rfl
    ·exact y2t _ (y2c (f:=(·.queue)) h.hr)
    ·exact y3a _ (y2c (f:=(·.queue)) h.hr)
  ·rw[hflat];exact c.ids.sublist (List.Sublist.map _ y6l)
 have htk:vX (b.flat Q) id q=b1.flat Q':=by
  rw[hflat,<- zPe c.ids h.has,h.get,hq.2];rfl
 have hm1:∀o,o∈b1.flat Q'↔o∈b.flat Q/\o.id≠id:=by
  intro o;rw[hflat,y2x];simp
 have ht1:∀b2:Book,(∀x,b2.hasF x=b1.hasF x/\b2.topI x=b1.topI x)->b2.Tops (b1.flat Q'):=by
  intro b2 hb2;refine⟨λo ho=> ?_,λs' hs' hh=> ?_⟩
  ·rw[(hb2 _).1,(hb2 _).2];obtain⟨ho,hne⟩:=(hm1 o).1 ho;have hs':=(m7 ho).1;rw[(v6 _ hs').1,(v6 _ hs').2,ht.fl o ho];split
   ·rename_i e;rw[e.1,e.2,y1s hne,y5x,y5x]
   ·rfl
  ·rw[(hb2 _).1,(v6 s' hs').2]at hh;rw[(hb2 _).2,(v6 s' hs').1];split at hh
   ·cases hh
   ·rename_i e;obtain⟨o,ho,o1,o2⟩:=ht.th s' hs' hh;refine⟨o,(hm1 o).2 ⟨ho,λe2=>e ?_⟩,o1,o2⟩;have hg:=pT c.ids ho;rw[e2,h.get]at hg;have hsd:s'=s:=by rw[<- o1,<- hg];rfl
    exact⟨hsd,by rw[<- hsd,<- o2,e2]⟩
 obtain⟨R1,R2,hsplit⟩:=List.append_of_mem h.hr;have hfn:=yFx (c.srt s h.hs) hsplit;have hgd:(b.rungs s).getD (zY s (b.rungs s) r.price) ⟨0,0⟩=r:=by
  rw[hfn,hsplit];refine zV ?_;rw[y3c (y1u _),y6g];rfl
 have hfl:zY s (b.rungs s) r.price<(b.rungs s).length:=by rw[hfn,hsplit];simp
 have hQr:Q'[r.queue.toNat]? =az ((y6 Q r).erase k):=by rw[<- hQ'];exact gJ hnQ
 have hcount:(a1.qAt r.queue).count=((y6 Q r).erase k).length:=by
  have:=w.q _ _ hQr;have hql:=w.ql;rw[zSa hrq.1 this]
 have er:y6 Q' r=(y6 Q r).erase k:=zV hQr;have hru:({b with a:=a1}:Book).rungs s=b.rungs s:=rfl;have hus:(a1.getF k).2=ay:=by
  have:a1.usedAt k=ay:=by
   have e:a1.slotAt k=slot0:=t4;rw[Arena.slotAt]at e;rw[Arena.usedAt,y1o,e];simp[slot0]
  rw[Arena.getF,y0y (by rw[this];decide)]
 refine⟨t1,?_,w.len,by rw[w.ql,c.wf.ql,hQl],hus,hfl⟩;rw[Book.dropF,hru,hgd];by_cases hz:(a1.qAt r.queue).count=0
 ·rw[y1a hz];have he:y6 Q' r=[]:=by
   rw[er];refine y1z ?_;omega
  obtain⟨k1,k2⟩:=Book.Core.close h.hs (by rw[vr];exact hsplit) c1 he rfl;have ebk:(({({b with a:=a1}:Book).unhas s id with at_:=mE id b.at_,spare:=b.spare++[r.queue]}:Book).setR s ((b.rungs s).take (zY s (b.rungs s) r.price)++(b.rungs s).drop (zY s (b.rungs s) r.price+1)))=(({b1 with spare:=b1.spare++[r.queue]}:Book).setR s (R1++R2)):=by
   have e1:(b.rungs s).take (zY s (b.rungs s) r.price)++(b.rungs s).drop (zY s (b.rungs s) r.price+1)=R1++R2:=by
    rw[hfn,hsplit,y6u];congr 1;rw[y5v,y4j (by omega),Nat.add_sub_cancel_left];rfl
   rw[e1,v4,hb1]
  refine⟨Q',?_,?_,?_⟩
  ·exact ebk▸k1
  ·rw[htk];refine ht1 _ λx=> ?_
   show(Book.hasF (({({b with a:=a1}:Book).unhas s id with at_:=mE id b.at_,spare:=b.spare++[r.queue]}:Book).setR s ((b.rungs s).take (zY s (b.rungs s) r.price)++(b.rungs s).drop (zY s (b.rungs s) r.price+1))) x=_/\Book.topI (({({b with a:=a1}:Book).unhas s id with at_:=mE id b.at_,spare:=b.spare++[r.queue]}:Book).setR s ((b.rungs s).take (zY s (b.rungs s) r.price)++(b.rungs s).drop (zY s (b.rungs s) r.price+1))) x=_);rw[ebk];rcases h.hs with rfl|rfl<;>exact⟨rfl,rfl⟩
  ·rw[htk];show _=Book.flat (({({b with a:=a1}:Book).unhas s id with at_:=mE id b.at_,spare:=b.spare++[r.queue]}:Book).setR s ((b.rungs s).take (zY s (b.rungs s) r.price)++(b.rungs s).drop (zY s (b.rungs s) r.price+1))) Q';rw[ebk];exact k2.symm
 ·rw[y0y hz];have c2:b1.Core Q' (-1):=⟨c1.wf,c1.srt,c1.rng,c1.nd,c1.ql,λs' hs' r' hr' _=>by
   by_cases e:r'.queue=r.queue
   ·rw[y6,e];intro e2;rw[y6]at er;rw[er]at e2;rw[hcount,e2]at hz;exact hz rfl
   ·exact c1.ne s' hs' r' hr' e,c1.sp,c1.at_,c1.ids,c1.qb⟩
  have hh:({({b with a:=a1}:Book).unhas s id with at_:=mE id b.at_}:Book)=b1:=hb1.symm;show Book.Rep {({b with a:=a1}:Book).unhas s id with at_:=mE id b.at_} _;rw[hh,htk];exact⟨Q',c2,ht1 b1 λ_=>⟨rfl,rfl⟩,rfl⟩
def pD (k:Int):∀l,lV (bz bo k) (atE l)=atE (mE k l)
 |[]=>rfl
 |(a,b)::l=>by
  have ih:=pD k l;show(bif (keq .i64 .i64 && decide (k=a))then atE l else _::lV _ (atE l))=_;rw[ih,mE];by_cases h:k=a
  ·subst h;simp[keq]
  ·simp[h,atE]
def z4p:delRC.ok Tryz.prog 208:=
 delX_ok mixed Tryz.func208 rfl (by kernel_rfl) (by kernel_rfl) (by kernel_rfl) (by kernel_rfl) zFm rfl Z8 (λs sn sk i j w R=>by kernel_rfl)
def dup {X:Prop} {n:Int} (h:X):X/\n=n/\True/\X:=⟨h,rfl,trivial,h⟩
def Book.Core.small {b:Book} {Q:List (List Nat)} (c:b.Core Q (-1)):b.small:=by
 have hq:=c.qb;have h1:=c.ql;have h2:=c.wf.ql;have h3:=c.wf.len;rw[Book.qs,y0x,y0x,y0z,y0z]at h1;exact⟨⟨oM,oM⟩,oM,oM,oM⟩
def yOw (i:DrI) (h:drop1C.cnd i):z9u i:=by
 obtain⟨hsm,hn⟩:i.ok 1:=h;obtain⟨⟨ha1,ha2⟩,hb1,hb2,hsp⟩:=id hsm;have hn:zY 1 i.b.buys i.price<i.b.buys.length:=hn;obtain⟨r,hr⟩:=yE (l:=i.b.buys) hn;have hgd:((i.b.rungs 1).getD (zY 1 (i.b.rungs 1) i.price) ⟨0,0⟩)=r:=zV hr;have hw:∀k:Int,bo.wrap ((zY 1 (i.b.rungs 1) i.price:Int)+1)=((zY 1 (i.b.rungs 1) i.price+1:Nat):Int):=λ_=>by
  have:=zCm 1 i.price (i.b.rungs 1);have hl:(i.b.rungs 1).length<=1000000:=by show i.b.buys.length<=_;omega
  rw[w64 (by omega)];rfl
 have hn2:((zY 1 (i.b.rungs 1) i.price:Nat):Int)<((aa zB i.b.buys).length:Int):=by
  rw[y0z];show((zY 1 i.b.buys i.price:Nat):Int)<_;omega
 unfold z9u zFk zEv uX wV xW xM y4 dI;refine⟨k0 _ _,Cv.cnd.mk (λc1=>Cv.cnd.mk (λc2=> ?_) (λc2=> ?_)) (λc1=> ?_)⟩
 ·have c2:i.b.top1=i.id:=by simpa using c2
  have hu:i.b.unhas 1 i.id={i.b with has1:=ay}:=by rw[Book.unhas,y1a ⟨c1,c2⟩];rfl
  refine⟨⟨{i.b with has1:=ay,at_:=mE i.id i.b.at_},i.price⟩,rF8 ⟨rfl,(pD _ _).symm,rfl,hsm,λ_ _=>⟨⟨oM,hn2⟩,r.queue,elA hr (by simp[zB]) rfl,⟨i.b.a,r.queue⟩,rfl,rfl,trivial,λ_ _=>Cv.cnd.mk (λe=>⟨by simp only[y3];omega,⟨i.b.buys.map zB,zY 1 (i.b.rungs 1) i.price,zY 1 (i.b.rungs 1) i.price+1⟩,rfl,(hw 0).symm,rfl,⟨y5z _,by rw[y0z];exact hn⟩,λ_ _=>⟨rfl,(),?_⟩⟩) (λe=>⟨(),?_⟩)⟩⟩⟩
  ·have e:(i.b.a.qAt r.queue).count=0:=by simpa using e
   rw[Book.dropF,hgd,y1a e,hu];refine(rF5 ⟨rfl,?_,rfl,?_,trivial⟩)
   ·show aa zB (i.b.buys.take _++i.b.buys.drop _)=_;rw[y1i,y5g,y6d]
   ·show iE (i.b.spare++[r.queue])=_;simp[iE]
  ·have e:¬(i.b.a.qAt r.queue).count=0:=by simpa using e
   rw[Book.dropF,hgd,y0y e,hu];exact(rF6 (rF3 trivial))
 ·have c2:¬i.b.top1=i.id:=by simpa using c2
  have hu:i.b.unhas 1 i.id={i.b with has1:=i.b.has1}:=by rw[Book.unhas,y0y (λe=>c2 e.2)]
  refine⟨⟨{i.b with has1:=i.b.has1,at_:=mE i.id i.b.at_},i.price⟩,rF8 ⟨rfl,(pD _ _).symm,rfl,hsm,λ_ _=>⟨⟨oM,hn2⟩,r.queue,elA hr (by simp[zB]) rfl,⟨i.b.a,r.queue⟩,rfl,rfl,trivial,λ_ _=>Cv.cnd.mk (λe=>⟨by simp only[y3];omega,⟨i.b.buys.map zB,zY 1 (i.b.rungs 1) i.price,zY 1 (i.b.rungs 1) i.price+1⟩,rfl,(hw 0).symm,rfl,⟨y5z _,by rw[y0z];exact hn⟩,λ_ _=>⟨rfl,(),?_⟩⟩) (λe=>⟨(),?_⟩)⟩⟩⟩
  ·have e:(i.b.a.qAt r.queue).count=0:=by simpa using e
   rw[Book.dropF,hgd,y1a e,hu];refine(rF5 ⟨rfl,?_,rfl,?_,trivial⟩)
   ·show aa zB (i.b.buys.take _++i.b.buys.drop _)=_;rw[y1i,y5g,y6d]
   ·show iE (i.b.spare++[r.queue])=_;simp[iE]
  ·have e:¬(i.b.a.qAt r.queue).count=0:=by simpa using e
   rw[Book.dropF,hgd,y0y e,hu];exact(rF6 (rF3 trivial))
 ·have hu:i.b.unhas 1 i.id={i.b with has1:=i.b.has1}:=by
   rw[Book.unhas,y0y];rintro⟨e,_⟩;exact absurd (show i.b.has1=ax from e) (by rw[c1];decide)
  refine⟨⟨{i.b with has1:=i.b.has1,at_:=mE i.id i.b.at_},i.price⟩,rF8 ⟨rfl,(pD _ _).symm,rfl,hsm,λ_ _=>⟨⟨oM,hn2⟩,r.queue,elA hr (by simp[zB]) rfl,⟨i.b.a,r.queue⟩,rfl,rfl,trivial,λ_ _=>Cv.cnd.mk (λe=>⟨by simp only[y3];omega,⟨i.b.buys.map zB,zY 1 (i.b.rungs 1) i.price,zY 1 (i.b.rungs 1) i.price+1⟩,rfl,(hw 0).symm,rfl,⟨y5z _,by rw[y0z];exact hn⟩,λ_ _=>⟨rfl,(),?_⟩⟩) (λe=>⟨(),?_⟩)⟩⟩⟩
  ·have e:(i.b.a.qAt r.queue).count=0:=by simpa using e
   rw[Book.dropF,hgd,y1a e,hu];refine(rF5 ⟨rfl,?_,rfl,?_,trivial⟩)
   ·show aa zB (i.b.buys.take _++i.b.buys.drop _)=_;rw[y1i,y5g,y6d]
   ·show iE (i.b.spare++[r.queue])=_;simp[iE]
  ·have e:¬(i.b.a.qAt r.queue).count=0:=by simpa using e
   rw[Book.dropF,hgd,y0y e,hu];exact(rF6 (rF3 trivial))
def yDi:drop1C.ok Tryz.prog 198:=okw mixed (gokc zLg (gokc m9 (gokc z4p gok0))) 0 (λ_=>[]) (λ_=>[]) [] Tryz.func198 yOw
def yOm (i:DrI) (h:drop2C.cnd i):yEj i:=by
 obtain⟨hsm,hn⟩:i.ok 2:=h;obtain⟨⟨ha1,ha2⟩,hb1,hb2,hsp⟩:=id hsm;have hn:zY 2 i.b.sells i.price<i.b.sells.length:=hn;obtain⟨r,hr⟩:=yE (l:=i.b.sells) hn;have hgd:((i.b.rungs 2).getD (zY 2 (i.b.rungs 2) i.price) ⟨0,0⟩)=r:=zV hr;have hw:∀k:Int,bo.wrap ((zY 2 (i.b.rungs 2) i.price:Int)+1)=((zY 2 (i.b.rungs 2) i.price+1:Nat):Int):=λ_=>by
  have:=zCm 2 i.price (i.b.rungs 2);have hl:(i.b.rungs 2).length<=1000000:=by show i.b.sells.length<=_;omega
  rw[w64 (by omega)];rfl
 have hn2:((zY 2 (i.b.rungs 2) i.price:Nat):Int)<((aa zB i.b.sells).length:Int):=by
  rw[y0z];show((zY 2 i.b.sells i.price:Nat):Int)<_;omega
 unfold yEj zFx zGc hP wY xW xL y5 dI;refine⟨k0 _ _,Cv.cnd.mk (λc1=>Cv.cnd.mk (λc2=> ?_) (λc2=> ?_)) (λc1=> ?_)⟩
 ·have c2:i.b.top2=i.id:=by simpa using c2
  have hu:i.b.unhas 2 i.id={i.b with has2:=ay}:=by rw[Book.unhas,y1a ⟨c1,c2⟩];rfl
  refine⟨⟨{i.b with has2:=ay,at_:=mE i.id i.b.at_},i.price⟩,rF8 ⟨rfl,(pD _ _).symm,rfl,hsm,λ_ _=>⟨⟨oM,hn2⟩,r.queue,elA hr (by simp[zB]) rfl,⟨i.b.a,r.queue⟩,rfl,rfl,trivial,λ_ _=>Cv.cnd.mk (λe=>⟨by simp only[y3];omega,⟨i.b.sells.map zB,zY 2 (i.b.rungs 2) i.price,zY 2 (i.b.rungs 2) i.price+1⟩,rfl,(hw 0).symm,rfl,⟨y5z _,by rw[y0z];exact hn⟩,λ_ _=>⟨rfl,(),?_⟩⟩) (λe=>⟨(),?_⟩)⟩⟩⟩
  ·have e:(i.b.a.qAt r.queue).count=0:=by simpa using e
   rw[Book.dropF,hgd,y1a e,hu];refine(rF6 ⟨rfl,?_,?_,trivial⟩)
   ·show aa zB (i.b.sells.take _++i.b.sells.drop _)=_;rw[y1i,y5g,y6d]
   ·show iE (i.b.spare++[r.queue])=_;simp[iE]
  ·have e:¬(i.b.a.qAt r.queue).count=0:=by simpa using e
   rw[Book.dropF,hgd,y0y e,hu];exact(rF6 (rF3 trivial))
 ·have c2:¬i.b.top2=i.id:=by simpa using c2
  have hu:i.b.unhas 2 i.id={i.b with has2:=i.b.has2}:=by rw[Book.unhas,y0y (λe=>c2 e.2)]
  refine⟨⟨{i.b with has2:=i.b.has2,at_:=mE i.id i.b.at_},i.price⟩,rF8 ⟨rfl,(pD _ _).symm,rfl,hsm,λ_ _=>⟨⟨oM,hn2⟩,r.queue,elA hr (by simp[zB]) rfl,⟨i.b.a,r.queue⟩,rfl,rfl,trivial,λ_ _=>Cv.cnd.mk (λe=>⟨by simp only[y3];omega,⟨i.b.sells.map zB,zY 2 (i.b.rungs 2) i.price,zY 2 (i.b.rungs 2) i.price+1⟩,rfl,(hw 0).symm,rfl,⟨y5z _,by rw[y0z];exact hn⟩,λ_ _=>⟨rfl,(),?_⟩⟩) (λe=>⟨(),?_⟩)⟩⟩⟩
  ·have e:(i.b.a.qAt r.queue).count=0:=by simpa using e
   rw[Book.dropF,hgd,y1a e,hu];refine(rF6 ⟨rfl,?_,?_,trivial⟩)
   ·show aa zB (i.b.sells.take _++i.b.sells.drop _)=_;rw[y1i,y5g,y6d]
   ·show iE (i.b.spare++[r.queue])=_;simp[iE]
  ·have e:¬(i.b.a.qAt r.queue).count=0:=by simpa using e
   rw[Book.dropF,hgd,y0y e,hu];exact(rF6 (rF3 trivial))
 ·have hu:i.b.unhas 2 i.id={i.b with has2:=i.b.has2}:=by
   rw[Book.unhas,y0y];rintro⟨e,_⟩;exact absurd (show i.b.has2=ax from e) (by rw[c1];decide)
  refine⟨⟨{i.b with has2:=i.b.has2,at_:=mE i.id i.b.at_},i.price⟩,rF8 ⟨rfl,(pD _ _).symm,rfl,hsm,λ_ _=>⟨⟨oM,hn2⟩,r.queue,elA hr (by simp[zB]) rfl,⟨i.b.a,r.queue⟩,rfl,rfl,trivial,λ_ _=>Cv.cnd.mk (λe=>⟨by simp only[y3];omega,⟨i.b.sells.map zB,zY 2 (i.b.rungs 2) i.price,zY 2 (i.b.rungs 2) i.price+1⟩,rfl,(hw 0).symm,rfl,⟨y5z _,by rw[y0z];exact hn⟩,λ_ _=>⟨rfl,(),?_⟩⟩) (λe=>⟨(),?_⟩)⟩⟩⟩
  ·have e:(i.b.a.qAt r.queue).count=0:=by simpa using e
   rw[Book.dropF,hgd,y1a e,hu];refine(rF6 ⟨rfl,?_,?_,trivial⟩)
   ·show aa zB (i.b.sells.take _++i.b.sells.drop _)=_;rw[y1i,y5g,y6d]
   ·show iE (i.b.spare++[r.queue])=_;simp[iE]
  ·have e:¬(i.b.a.qAt r.queue).count=0:=by simpa using e
   rw[Book.dropF,hgd,y0y e,hu];exact(rF6 (rF3 trivial))
def yCd:drop2C.ok Tryz.prog 198:=okw mixed (gokc zNr (gokc m9 (gokc z4p gok0))) 0 (λ_=>[]) (λ_=>[]) [] Tryz.func198 yOm
def yJj:dropC.ok Tryz.prog 198:=λj=>match j with
 |⟨i,ay⟩=>yDi i
 |⟨i,ax⟩=>yCd i
def yJp {a:Arena} {k:Nat} {p t:Int} {m:Nat} (h:zSz (a.slotAt k) m k p t) (hl:k<a.slots.length):a.getF k=((a.slotAt k).ent,ax):=by
 have:a.usedAt k=ax:=by
  simp only[Arena.usedAt,y1l,y2v,y1o];exact⟨oM,oM,h.used⟩
 rw[Arena.getF,y1a this,y1o]
def zVl {b:Book} {Q:List (List Nat)} (c:b.Core Q (-1)) {id s:Int} {r:xC} {k:Nat} (h:Told b Q id s r k):b.a.getF k=((b.a.slotAt k).ent,ax)/\(b.a.slotAt k).qty<=1000000/\1<=(b.a.slotAt k).qty:=by
 obtain⟨h1,⟨p,t,h2⟩,h3⟩:=c.wf.toWf0.mem (c.get h.hs h.hr) h.hk;exact⟨yJp h2 (by rw[c.wf.len];exact h1),h2.q2,c.wf.pos _ _ (c.get h.hs h.hr) _ h.hk⟩
def yRi (i:FlI) (h:bfindC.cnd i):yCz i:=by
 obtain⟨Q,c,ht,hL⟩:i.b.Rep i.L:=h;unfold yCz zHa zAt nV dI;rcases c.told i.id with⟨hg,hn⟩|⟨s,r,k,hT⟩
 ·refine⟨k0 _ _,ay,0,0,0,.inr ⟨?_,rfl,rfl⟩,Cv.cnd.mk (λ_=> ?_) (λe=>absurd e Z8)⟩
  ·rw[eO,hg];rfl
  ·rw[<- hL]at hn;rw[yTm hn,hn];exact⟨(),k0q⟩
 ·refine⟨k0 _ _,ax,s,r.price,k,.inl ⟨?_,rfl⟩,Cv.cnd.mk (λe=>absurd e Z8) (λ_=>dup ⟨⟨i.b.a,k⟩,rfl,rfl,by dsimp only;rw[c.wf.len];decide,λ_ _=>⟨(),?_⟩⟩)⟩
  ·rw[eO,hT.e];rfl
  ·have h1:=hT.get;have h2:=hT.has;rw[<- hL]at h1 h2;rw[h1,h2,(zVl c hT).1];exact⟨hT.ident,k0q⟩
def zXt:bfindC.ok Tryz.prog 111:=okw mixed (gokc z6j gok0) 0 (λ_=>[]) (λ_=>[]) [0] Tryz.func111 yRi
def Book.Core.okAt {b:Book} {Q:List (List Nat)} (c:b.Core Q (-1)):b.a.okAt:=c.wf.toWf0.ok
def yVh (i:FlI) (h:fillC.cnd i):yNo i:=by
 have hR:i.b.Rep i.L:=h;obtain⟨Q,c,ht,hL⟩:=id hR;unfold yNo zSl zKm wF lS nV dI;rcases c.told i.id with⟨hg,hn⟩|⟨s,r,k,hT⟩
 ·refine⟨k0 _ _,ay,0,0,0,.inr ⟨?_,rfl,rfl⟩,Cv.cnd.mk (λ_=> ?_) (λe=>absurd e (by simp))⟩
  ·rw[eO,hg];rfl
  ·rw[<- hL]at hn;rw[xR,y1a hn];exact⟨i.b,rF7 (rF3 hR)⟩
 have hg:=hT.get;have hh:=hT.has;rw[<- hL]at hg hh;obtain⟨hsg,hq1,hq2⟩:=zVl c hT;have hqq:(fV i.L i.id).qty=(i.b.a.slotAt k).qty:=by rw[hg];rfl
 refine⟨k0 _ _,ax,s,r.price,k,.inl ⟨?_,rfl⟩,Cv.cnd.mk (λe=>absurd e (by simp)) (λ_=>⟨⟨i.b.a,k,i.qty⟩,rfl,rfl,rfl,c.okAt,λ_ _=> ?_⟩)⟩
 ·rw[eO,hT.e];rfl
 dsimp only;have hu:i.b.a.usedAt k=ax:=by
  cases hu:i.b.a.usedAt k with
  |true=>rfl
  |false=>rw[Arena.getF,y0y (by rw[hu];decide)]at hsg;exact absurd (congrArg Prod.snd hsg) (by simp)
 by_cases hb:i.qty<1\/(i.b.a.slotAt k).qty<i.qty
 ·have ht:i.b.a.takeF k i.qty=(i.b.a,24):=by rw[Arena.takeF,y0y (by rw[hu];decide),y1o,y1a hb]
  rw[ht];refine Cv.cnd.mk (λ_=> ?_) (λe=>absurd e (by simp));rw[xR,y0y (by rw[hh];decide),y1a (by rw[hqq];exact hb)];exact⟨i.b,rF7 (rF3 hR)⟩
 have hfl:xR i.L i.id i.qty=(vX i.L i.id i.qty,0):=by rw[xR,y0y (by rw[hh];decide),y0y (by rw[hqq];exact hb)]
 by_cases hf:i.qty=(i.b.a.slotAt k).qty
 ·obtain⟨g1,g2,g3,g4,g5,g6⟩:=c.gone (by rw[<- hL];exact ht) hT (q:=i.qty) ⟨oM,hf⟩;rw[<- hL]at g2;have hsm:=c.small;rw[g1];refine Cv.cnd.mk (λe=>absurd e (by simp)) (λ_=>dup ⟨⟨(i.b.a.takeF k i.qty).1,k⟩,rfl,rfl,by dsimp only;rw[g3];decide,λ_ _=> ?_⟩);dsimp only;rw[g5];refine Cv.cnd.mk (λ_=> ?_) (λe=>absurd e (by simp));rcases hT.hs with rfl|rfl
  ·refine⟨⟨⟨{i.b with a:=(i.b.a.takeF k i.qty).1},i.id,r.price,k⟩,ay⟩,rF8 (rF4 ⟨rfl,⟨⟨⟨by dsimp only;rw[g3];decide,by dsimp only;rw[g4];exact hsm.1.2⟩,hsm.2⟩,g6⟩,λ_ _=> ?_⟩)⟩;refine⟨({i.b with a:=(i.b.a.takeF k i.qty).1}:Book).dropF 1 i.id r.price,by rw[hfl],rF6 (rF3 (by rw[hfl];exact g2))⟩
  ·refine⟨⟨⟨{i.b with a:=(i.b.a.takeF k i.qty).1},i.id,r.price,k⟩,ax⟩,rF8 (rF4 ⟨rfl,⟨⟨⟨by dsimp only;rw[g3];decide,by dsimp only;rw[g4];exact hsm.1.2⟩,hsm.2⟩,g6⟩,λ_ _=> ?_⟩)⟩;refine⟨({i.b with a:=(i.b.a.takeF k i.qty).1}:Book).dropF 2 i.id r.price,by rw[hfl],rF6 (rF3 (by rw[hfl];exact g2))⟩
 ·obtain⟨g1,g2,g3,g4,g5⟩:=c.less (by rw[<- hL];exact ht) hT (q:=i.qty) oM;rw[<- hL]at g2;rw[g1];refine Cv.cnd.mk (λe=>absurd e (by simp)) (λ_=>dup ⟨⟨(i.b.a.takeF k i.qty).1,k⟩,rfl,rfl,by dsimp only;rw[g3];decide,λ_ _=> ?_⟩);dsimp only;rw[g4];refine Cv.cnd.mk (λe=>absurd e (by simp)) (λ_=>Cv.cnd.mk (λe=> ?_) (λ_=> ?_))
  ·have e:¬((i.b.a.takeF k i.qty).1.slotAt k).ent.id=i.id:=by simpa using e
   exact absurd g5 e
  ·exact⟨{i.b with a:=(i.b.a.takeF k i.qty).1},by rw[hfl],rF6 (rF3 (by rw[hfl];exact g2))⟩
def yHu:fillC.ok Tryz.prog 187:=okw mixed (gokc yDc (gokc z6j (gokc yJj gok0))) 0 (λ_=>[]) (λ_=>[]) [0] Tryz.func187 yVh
def zSs (A B:List zG) (s p:Int):atL (A++B) s p=atL A s p++atL B s p:=y4y _ _
def zTj {A:List zG} {s p:Int} (h:∀o∈A,o.side=s->o.price≠p):atL A s p=[]:=by
 rw[atL,ak];intro o ho;by_cases e:o.side=s
 ·simp[h o ho e]
 ·simp[e]
def yIu {A:List zG} {s p:Int} (h:∀o∈A,o.side=s/\o.price=p):atL A s p=A:=by
 rw[atL,y6k];intro o ho;simp[h o ho]
def zMk {s x y:Int} (h:btr s x y=ax):x≠y:=by
 rintro rfl;rw[eR]at h;cases h
def Book.Core.at_no {b:Book} {Q:List (List Nat)} (c:b.Core Q (-1)) {s p:Int} (hs:s=1\/s=2) (h:qU s (b.rungs s) p=ay):atL (b.flat Q) s p=[]:=by
 have hsp:=zAv (p:=p) (c.srt s hs);rw[y0y (by rw[h];decide)]at hsp;refine zTj λo ho e=> ?_
 obtain⟨_,r,hr,_,hp⟩:=m7 ho;rw[e]at hr;rw[hp];rw[<- y3s (zY s (b.rungs s) p) (b.rungs s)]at hr;rcases y2f.1 hr with hr|hr
 ·exact zMk (hsp.1 r hr)
 ·exact(zMk (hsp.2 r hr)).symm
def Book.Core.at_yes {b:Book} {Q:List (List Nat)} (c:b.Core Q (-1)) {s p:Int} (hs:s=1\/s=2) (h:qU s (b.rungs s) p=ax):∃r,(b.rungs s)[zY s (b.rungs s) p]? =az r/\r.price=p/\r∈b.rungs s/\atL (b.flat Q) s p=b.rOrds Q s r:=by
 have hsp:=zAv (p:=p) (c.srt s hs);rw[y1a h]at hsp;obtain⟨h1,r,hr,hp,h2⟩:=hsp;have hlt:=(y1c.1 hr).1;refine⟨r,hr,hp,y1j hr,?_⟩;have hsplit:b.rungs s=(b.rungs s).take (zY s (b.rungs s) p)++r::(b.rungs s).drop (zY s (b.rungs s) p+1):=by
  conv=>lhs;rw[<- y3s (zY s (b.rungs s) p) (b.rungs s)]
  rw[y3f hlt,(y1c.1 hr).2]
 have hside:atL (b.sideL Q s) s p=b.rOrds Q s r:=by
  rw[Book.sideL,hsplit,y2u,y2q,zSs,zSs,zTj,yIu,zTj,y1t,y3k]
  ·intro o ho _;obtain⟨r',hr',ho⟩:=y3t.1 ho;rw[(x0 ho).2];exact(zMk (h2 r' hr')).symm
  ·intro o ho;rw[<- hp];exact x0 ho
  ·intro o ho _;obtain⟨r',hr',ho⟩:=y3t.1 ho;rw[(x0 ho).2];exact zMk (h1 r' hr')
 have hother:∀s',s'≠s->atL (b.sideL Q s') s p=[]:=λs' hne=>zTj λo ho e=>absurd ((aE ho).1.symm.trans e) hne
 rw[Book.flat,zSs];rcases hs with rfl|rfl
 ·rw[hside,hother 2 (by decide),y1t]
 ·rw[hside,hother 1 (by decide),y3k]
def Book.Core.listOk {b:Book} {Q:List (List Nat)} (c:b.Core Q (-1)) {s:Int} (hs:s=1\/s=2) {r:xC} (hr:r∈b.rungs s):b.a.listOk r.queue (y6 Q r):=by
 have hg:=c.get hs hr;have hrq:=c.rng _ (vY hs hr);refine⟨by have:=c.wf.toWf0.short hg;omega,?_⟩;rw[y1a ⟨hrq.1,by rw[c.wf.ql];exact hrq.2⟩,zV (c.wf.q _ _ hg)];exact zQa (c.wf.sg _ _ hg)
def yZs (i:AtI) (h:at1C.cnd i):yUl i:=by
 obtain⟨Q,c,ht,hL⟩:i.b.Rep i.L:=h;unfold yUl uX wV xW xM qG dI;refine⟨1,rfl,trivial,λ_ _=>Cv.cnd.mk (λe=>absurd e Z8) λ_=>⟨⟨i.b,i.price⟩,rF7 (rF3 ⟨rfl,c.small,λ_ _=>Cv.cnd.mk (λe=> ?_) (λe=> ?_)⟩)⟩⟩
 ·have e:qU 1 (i.b.rungs 1) i.price=ay:=by simpa using e
  have:=c.at_no (.inl rfl) e;rw[<- hL]at this;refine⟨(),rF8 ⟨rfl,?_,trivial⟩⟩;show aa j8 (atL i.L 1 i.price)=[];rw[this];rfl
 ·have e:qU 1 (i.b.rungs 1) i.price=ax:=by simpa using e
  obtain⟨r,hr,hp,hm,ha⟩:=c.at_yes (.inl rfl) e;rw[<- hL]at ha;have hlt:=(y1c.1 hr).1;refine⟨⟨oM,by rw[y0z];exact Int.ofNat_lt.2 hlt⟩,r.price,r.queue,elA hr (by simp[zB]) rfl,⟨i.b,1,r,y6 Q r⟩,rF8 (rF3 ⟨rfl,c.listOk (.inl rfl) hm,λ_ _=>⟨(),rfl,?_,trivial⟩⟩)⟩;show aa j8 (atL i.L 1 i.price)=_;rw[ha,BoI.ords,Book.rOrds,Arena.ents];simp only[y3j];rfl
def yQl:at1C.ok Tryz.prog 199:=okw mixed (gokc tF (gokc zLg (gokc zQi gok0))) 0 (λ_=>[]) (λ_=>[]) [0] Tryz.func199 yZs
def y0k (i:AtI) (h:at2C.cnd i):yWl i:=by
 obtain⟨Q,c,ht,hL⟩:i.b.Rep i.L:=h;unfold yWl hP wY xW xL qG dI;refine⟨2,rfl,trivial,λ_ _=>Cv.cnd.mk (λe=>absurd e Z8) λ_=>⟨⟨i.b,i.price⟩,rF7 (rF3 ⟨rfl,c.small,λ_ _=>Cv.cnd.mk (λe=> ?_) (λe=> ?_)⟩)⟩⟩
 ·have e:qU 2 (i.b.rungs 2) i.price=ay:=by simpa using e
  have:=c.at_no (.inr rfl) e;rw[<- hL]at this;refine⟨(),rF8 ⟨rfl,?_,trivial⟩⟩;show aa j8 (atL i.L 2 i.price)=[];rw[this];rfl
 ·have e:qU 2 (i.b.rungs 2) i.price=ax:=by simpa using e
  obtain⟨r,hr,hp,hm,ha⟩:=c.at_yes (.inr rfl) e;rw[<- hL]at ha;have hlt:=(y1c.1 hr).1;refine⟨⟨oM,by rw[y0z];exact Int.ofNat_lt.2 hlt⟩,r.price,r.queue,elA hr (by simp[zB]) rfl,⟨i.b,2,r,y6 Q r⟩,rF8 (rF3 ⟨rfl,c.listOk (.inr rfl) hm,λ_ _=>⟨(),rfl,?_,trivial⟩⟩)⟩;show aa j8 (atL i.L 2 i.price)=_;rw[ha,BoI.ords,Book.rOrds,Arena.ents];simp only[y3j];rfl
def ySn:at2C.ok Tryz.prog 199:=okw mixed (gokc tF (gokc zNr (gokc zQi gok0))) 0 (λ_=>[]) (λ_=>[]) [0] Tryz.func199 y0k
def yWb:atC.ok Tryz.prog 199:=λj=>match j with
 |⟨b,L,ay,p⟩=>yQl ⟨b,L,ay,p⟩
 |⟨b,L,ax,p⟩=>ySn ⟨b,L,ax,p⟩
def zWn (p:Int) (l:List zG):Lv:=⟨p,(l.map (·.qty)).sum,l.length⟩
def zNa:∀{l:List zG} {v:Lv} {vs:List Lv},grp l=v::vs->∃o r,l=o::r/\o.price=v.price
 |[],v,vs,h=>by cases h
 |o::r,v,vs,h=>by
  refine⟨o,r,rfl,?_⟩;rw[grp]at h;split at h
  ·cases h;rfl
  ·split at h
   ·rename_i e;cases h;exact e.symm
   ·cases h;rfl
def z4e {p:Int}:∀{l:List zG} {m:List zG},l≠[]->(∀o∈l,o.price=p)->(∀o r,m=o::r->o.price≠p)->grp (l++m)=zWn p l::grp m
 |[],m,h,_,_=>absurd rfl h
 |[o],m,_,h,hm=>by
  have e:=h o y1f;rw[List.singleton_append,grp];split
  ·rename_i g;simp[zWn,e,g]
  ·rename_i v vs g;obtain⟨o',r,e1,e2⟩:=zNa g;have:=hm o' r e1;rw[y0y (by omega)];simp[zWn,e,g]
 |o::o'::l,m,_,h,hm=>by
  have e:=h o y1f;have ih:=z4e (l:=o'::l) (m:=m) (by simp) (λx hx=>h x (y1g _ hx)) hm;rw[y2p,grp,ih];dsimp only;rw[y1a (show(zWn p (o'::l)).price=o.price from e.symm)];simp only[zWn,y1m,y2o,y1d];rfl
def zXv {f:xC->List zG}:∀{R:List xC},(∀r∈R,f r≠[]/\∀o∈f r,o.price=r.price)->R.Pairwise (λr r'=>r.price≠r'.price)->grp (R.flatMap f)=R.map λr=>zWn r.price (f r)
 |[],_,_=>rfl
 |r::R,h,hp=>by
  rw[y4n]at hp;have ih:=zXv (R:=R) (λx hx=>h x (y1g _ hx)) hp.2;rw[y2q,z4e (h r y1f).1 (h r y1f).2,ih,y1m];intro o l e;cases R with
  |nil=>cases e
  |cons r' R'=>
   rw[y2q]at e;obtain⟨h1,h2⟩:=h r' (y1g _ y1f);cases hf:f r' with
   |nil=>exact absurd hf h1
   |cons x y=>
    rw[hf,y2p]at e;cases e;rw[h2 o (by rw[hf];exact y1f)];exact(hp.1 r' y1f).symm
def zQs {b:Book} {Q:List (List Nat)} {s:Int} (hs:s=1\/s=2):(b.flat Q).filter (λo=>decide (o.side=s))=b.sideL Q s:=by
 have h1:∀s',(b.sideL Q s').filter (λo=>decide (o.side=s))=if s'=s then b.sideL Q s' else[]:=by
  intro s';split
  ·rename_i e;rw[y6k];intro o ho;rw[(aE ho).1,e];simp
  ·rename_i e;rw[ak];intro o ho;rw[(aE ho).1];simp[e]
 rw[Book.flat,y4y,h1,h1];rcases hs with rfl|rfl
 ·simp
 ·simp
def Book.Core.neL {b:Book} {Q:List (List Nat)} (c:b.Core Q (-1)) {s:Int} (hs:s=1\/s=2) {r:xC} (hr:r∈b.rungs s):y6 Q r≠[]:=c.ne s hs r hr λe=>by have:=c.rng _ (vY hs hr);omega
def Book.Core.toldL {b:Book} {Q:List (List Nat)} (c:b.Core Q (-1)) {s:Int} (hs:s=1\/s=2) {r:xC} (hr:r∈b.rungs s):b.told r=zWn r.price (b.rOrds Q s r):=by
 have hg:=c.get hs hr;have hrq:=c.rng _ (vY hs hr);have hq:=c.wf.q _ _ hg;have hql:=c.wf.ql;rw[Book.told,zSa hrq.1 hq,zWn,Book.rOrds,y3j,y0z];rfl
def Book.Core.lad {b:Book} {Q:List (List Nat)} (c:b.Core Q (-1)) {s:Int} (hs:s=1\/s=2):uD (b.flat Q) s=(b.rungs s).map b.told:=by
 rw[uD,zQs hs,Book.sideL,zXv]
 ·exact y2g λr hr=>(c.toldL hs hr).symm
 ·intro r hr;refine⟨λe=>c.neL hs hr (List.map_eq_nil_iff.1 e),λo ho=>(x0 ho).2⟩
 ·exact(c.srt s hs).imp λh=>zMk h
def Book.Core.bestL {b:Book} {Q:List (List Nat)} (c:b.Core Q (-1)) {s:Int} (hs:s=1\/s=2):b.best (b.rungs s)=Sx.bestL (b.flat Q) s:=by
 rw[Sx.bestL,c.lad hs];cases b.rungs s<;>rfl
def Book.Core.cnt {b:Book} {Q:List (List Nat)} (c:b.Core Q (-1)):b.cntOk:=by
 intro q hq;obtain⟨n,hn⟩:=y3m.1 hq;have hlt:=(y1c.1 hn).1;rw[c.wf.ql]at hlt;obtain⟨l,hl⟩:=yE hlt;have:=c.wf.q n l hl;rw[hn]at this;cases this;have:=c.wf.toWf0.short hl;constructor<;>dsimp only<;>omega
def qI (L:List zG):Top:=(top0.buy (bestL L 1)).sell (bestL L 2)
def Book.Rep.top {b:Book} {L:List zG} (h:b.Rep L):b.top=qI L:=by
 obtain⟨Q,c,ht,rfl⟩:=h;rw[Book.top,qI,<- c.bestL (.inl rfl),<- c.bestL (.inr rfl)];rfl
def Book.Rep.cnt {b:Book} {L:List zG} (h:b.Rep L):b.cntOk:=by
 obtain⟨Q,c,ht,rfl⟩:=h;exact c.cnt
structure zMt (o:zG):Prop where
 s:o.side=1\/o.side=2
 q:1<=o.qty/\o.qty<=1000000
def Book.Rep.ords {b:Book} {L:List zG} (h:b.Rep L):(∀o∈L,zMt o)/\(L.map (·.id)).Nodup/\L.length<=250:=by
 obtain⟨Q,c,ht,rfl⟩:=h;refine⟨λo ho=> ?_,c.ids,?_⟩
 ·obtain⟨hs,r,hr,ho,hp⟩:=m7 ho;refine⟨hs,?_⟩;obtain⟨k,hk,e⟩:=y2m.1 ho;obtain⟨_,⟨_,_,h2⟩,_⟩:=c.wf.toWf0.mem (c.get hs hr) hk;have eq:o.qty=(b.a.slotAt k).qty:=by rw[<- e];rfl
  rw[eq];exact⟨c.wf.pos _ _ (c.get hs hr) _ hk,h2.q2⟩
 ·have hnd:(((b.rungs 1).flatMap (y6 Q)++(b.rungs 2).flatMap (y6 Q))).Nodup:=by
   have hm:((b.flat Q).map (·.id))=((b.rungs 1).flatMap (y6 Q)++(b.rungs 2).flatMap (y6 Q)).map λk=>(b.a.slotAt k).id:=by
    rw[Book.flat,y1i,y1i,Book.sideL,Book.sideL,tL,tL,tL,tL];congr 1
    ·exact y7 λr _=>by rw[Book.rOrds,y3j];rfl
    ·exact y7 λr _=>by rw[Book.rOrds,y3j];rfl
   have:=c.ids;rw[hm]at this;exact List.Pairwise.of_map _ (λa b hab e=>hab (by rw[e])) this
  have hl:(b.flat Q).length=((b.rungs 1).flatMap (y6 Q)++(b.rungs 2).flatMap (y6 Q)).length:=by
   rw[Book.flat,y0x,y0x,Book.sideL,Book.sideL,y5u,y5u,y5u,y5u];congr 1
   ·congr 1;exact y2g λr _=>by rw[Book.rOrds,y0z]
   ·congr 1;exact y2g λr _=>by rw[Book.rOrds,y0z]
  rw[hl];refine zMo 250 hnd λk hk=> ?_
  rcases y2f.1 hk with hk|hk
  ·obtain⟨r,hr,hk⟩:=y3t.1 hk;exact(c.wf.toWf0.mem (c.get (.inl rfl) hr) hk).1
  ·obtain⟨r,hr,hk⟩:=y3t.1 hk;exact(c.wf.toWf0.mem (c.get (.inr rfl) hr) hk).1
def Book.Rep.fit {b:Book} {L:List zG} (h:b.Rep L):b.fit:=by
 obtain⟨Q,c,ht,rfl⟩:=h;have hs:=c.small;have h1:=c.ql;have h2:=c.wf.ql;have hqb:=c.qb;rw[Book.qs,y0x,y0x,y0z,y0z]at h1;refine⟨⟨hs.1.1,λhf=> ?_,λq hq=> ?_⟩,oM,oM,oM,oM⟩
 ·obtain⟨k,_,hk,hk1,hku,_⟩:=c.wf.toWf0.unused hf;exact⟨_,y1j hk1,hku⟩
 ·obtain⟨n,hn⟩:=y3m.1 hq;have hlt:=(y1c.1 hn).1;rw[c.wf.ql]at hlt;obtain⟨l,hl⟩:=yE hlt;have:=c.wf.q n l hl;rw[hn]at this;cases this;dsimp only;rcases jS l with e|⟨y,j,e,e2⟩
  ·exact .inl ((nO l).2 e)
  ·rw[e2];have:=(c.wf.toWf0.mem hl (k:=j) (by rw[e];simp)).1;rw[c.wf.len];exact .inr ⟨oM,oM⟩
def whL:Nat->List (List zG)->List (Int×Int)
 |_,[]=>[]
 |k,L::B=>L.map (λo=>(o.id,(k:Int)))++whL (k+1) B
def whL_mem:∀{B:List (List zG)} {n:Nat} {x:Int×Int},x∈whL n B↔∃(k:Nat) (L:List zG),B[k]? =az L/\x.1∈L.map (·.id)/\x.2=((n+k:Nat):Int)
 |[],n,x=>by simp[whL]
 |L::B,n,x=>by
  rw[whL,y2f,whL_mem (B:=B)];constructor
  ·rintro(h|⟨k,L',h1,h2,h3⟩)
   ·obtain⟨o,ho,rfl⟩:=y2m.1 h;exact⟨0,L,rfl,y2c (f:=(·.id)) ho,rfl⟩
   ·exact⟨k+1,L',h1,h2,by rw[h3];omega⟩
  ·rintro⟨k,L',h1,h2,h3⟩;cases k with
   |zero=>
    cases h1;obtain⟨o,ho,e⟩:=y2m.1 h2;exact .inl (y2m.2 ⟨o,ho,Prod.ext e h3.symm⟩)
   |succ k=>exact .inr ⟨k,L',h1,h2,by rw[h3];omega⟩
def zIp:∀{B:List (List zG)} (n k:Nat),k<B.length->∃rest,∀X:List zG,(whL n (B.set k X)).Perm (X.map (λo=>(o.id,((n+k:Nat):Int)))++rest)
 |[],n,k,h=>absurd h (by simp)
 |L::B,n,0,h=>⟨whL (n+1) B,λX=> .refl _⟩
 |L::B,n,k+1,h=>by
  obtain⟨rest,hr⟩:=zIp (B:=B) (n+1) k (by simpa using h);refine⟨L.map (λo=>(o.id,(n:Int)))++rest,λX=> ?_⟩;rw[y6p,whL];refine((hr X).append_left _).trans ?_;rw[<- y1e,<- y1e,show n+1+k=n+(k+1)by omega];exact y3d.append_right _
structure MSt.Rep (s:MSt) (p:Prd) (B:List (List zG)):Prop where
 ep:s.p=p
 bl:s.books.length=B.length
 bk:∀(k:Nat) (b:Book) (L:List zG),s.books[k]? =az b->B[k]? =az L->b.Rep L
 wh:s.wh.Perm (whL 0 B)
 ids:((whL 0 B).map (·.1)).Nodup
def bI (B:List (List zG)) (id:Int):Option Nat:=B.findIdx? λL=>jU L id
def uM {B:List (List zG)} {id:Int} {k:Nat} (h:bI B id=az k):∃L,B[k]? =az L/\jU L id=ax:=by
 rw[bI,y4e]at h;obtain⟨h1,h2,_⟩:=h;exact⟨_,y2h h1,h2⟩
def z0w {B:List (List zG)} {id:Int} (h:bI B id=ba):∀L∈B,jU L id=ay:=by
 rw[bI,y5l]at h;exact h
def zRr:∀{l:List (Int×Int)},(l.map (·.1)).Nodup->∀{k x:Int},(k,x)∈l->zBh l k=az x
 |[],_,k,x,hx=>by cases hx
 |p::l,h,k,x,hx=>by
  rw[y1m,y3l]at h;rw[zBh,y6s];rcases y1r.1 hx with ex|hx
  ·subst ex;simp
  ·have:p.1≠k:=by rintro e;exact h.1 (e▸y2c (f:=(·.1)) hx)
   rw[y1s this];exact zRr h.2 hx
def z9b {l:List (Int×Int)} {k:Int} (h:k∉l.map (·.1)):zBh l k=ba:=by
 rw[zBh,Option.map_eq_none_iff,List.find?_eq_none];intro x hx e;have e:x.1=k:=by simpa using e
 exact h (e▸y2c (f:=(·.1)) hx)
def MSt.Rep.keys {s:MSt} {p:Prd} {B:List (List zG)} (h:s.Rep p B):(s.wh.map (·.1)).Nodup:=(h.wh.map (·.1)).nodup_iff.2 h.ids
def MSt.Rep.at_ {s:MSt} {p:Prd} {B:List (List zG)} (h:s.Rep p B) (id:Int):zBh s.wh id=(bI B id).map (λk:Nat=>(k:Int)):=by
 cases hi:bI B id with
 |none=>
  refine z9b λhm=> ?_
  rw[(h.wh.map (·.1)).mem_iff]at hm
  obtain⟨x,hx,rfl⟩:=y2m.1 hm;obtain⟨k,L,h1,h2,_⟩:=whL_mem.1 hx;have:=z0w hi L (y1j h1);rw[hasId_iff.2 h2]at this;cases this
 |some k=>
  obtain⟨L,h1,h2⟩:=uM hi;refine zRr h.keys (h.wh.mem_iff.2 (whL_mem.2 ⟨k,L,h1,hasId_iff.1 h2,by simp⟩))
def qM (B:List (List zG)) (id q:Int):List (List zG)×Int:=match bI B id with
 |none=>(B,26)
 |some k=>(B.set k (xR (B.getD k []) id q).1,(xR (B.getD k []) id q).2)
def zMy {L:List zG} (h:(L.map (·.id)).Nodup) (id q:Int):((xR L id q).1.map (·.id)=L.map (·.id)/\jU (xR L id q).1 id=jU L id)\/((xR L id q).1=L.filter (λo=> !decide (o.id=id))/\jU (xR L id q).1 id=ay):=by
 rw[xR];by_cases h1:jU L id=ay
 ·rw[y1a h1];exact .inl ⟨rfl,rfl⟩
 have h1:jU L id=ax:=by simpa using h1
 rw[y0y (by rw[h1];decide)];by_cases h2:q<1\/(fV L id).qty<q
 ·rw[y1a h2];exact .inl ⟨rfl,rfl⟩
 rw[y0y h2];dsimp only;by_cases h3:(fV L id).qty=q
 ·refine .inr ?_;have e:vX L id q=L.filter λo=> !decide (o.id=id):=by rw[<- h3];exact zPe h h1
  refine⟨e,?_⟩;rw[e,jU,List.any_eq_false];intro o ho;rw[y2x]at ho;simpa using ho.2
 ·refine .inl ?_;have hm:(vX L id q).map (·.id)=L.map (·.id):=by
   have:vX L id q=L.map λo=>if o.id=id then{o with qty:=o.qty-q}else o:=by
    rw[vX,<- List.filterMap_eq_map];refine bY λo ho=> ?_
    simp only[ce];by_cases e:o.id=id
    ·have hg:=pT h ho;rw[e]at hg;rw[y1a e,y1a e,y0y (λe2=>h3 (by rw[hg];exact e2))]
    ·rw[y0y e,y0y e]
   rw[this,y3j];refine y2g λo _=> ?_
   simp only[ce];split<;>rfl
  refine⟨hm,?_⟩;rw[y6q,hasId_iff,hasId_iff,hm]
def z5f:∀{l:List (Int×Int)} {k:Int},(l.map (·.1)).Nodup->z1z k l=l.filter λx=> !decide (x.1=k)
 |[],k,_=>rfl
 |(a,b)::l,k,h=>by
  rw[y1m,y3l]at h;rw[z1z];by_cases e:k=a
  ·subst e;rw[y1a rfl,y5s (by simp)];symm;rw[y6k];intro x hx;have:x.1≠k:=λe=>h.1 (e▸y2c (f:=(·.1)) hx)
   simp[this]
  ·rw[y0y e,y5r (by simp[Ne.symm e]),z5f h.2]
def zYb:∀{l:List (Int×Int)} {k x:Int},k∉l.map (·.1)->zXj k x l=l++[(k,x)]
 |[],k,x,_=>rfl
 |p::l,k,x,h=>by
  rw[y1m,y1r,not_or]at h;rw[zXj,y0y h.1,zYb h.2];rfl
def vQ {α:Type} {l:List α} {k:Nat} {x:α} (h:l[k]? =az x):l.set k x=l:=by
 apply y5c;intro i;rw[y4l];split
 ·rename_i e;subst e;rw[y1a (y1c.1 h).1,h]
 ·rfl
def MSt.Rep.set {s:MSt} {p:Prd} {B:List (List zG)} (h:s.Rep p B) {k:Nat} {L':List zG} {b':Book} (hb:b'.Rep L') (hk:k<B.length) {wh':List (Int×Int)} (hw:wh'.Perm (whL 0 (B.set k L'))) (hi:((whL 0 (B.set k L')).map (·.1)).Nodup):({s with books:=s.books.set k b',wh:=wh'}:MSt).Rep p (B.set k L'):=by
 refine⟨h.ep,by simpa using h.bl,λj b L h1 h2=> ?_,hw,hi⟩;by_cases e:k=j
 ·subst e;have h1:(s.books.set k b')[k]? =az b:=h1;rw[gJ (by rw[h.bl];exact hk)]at h1;rw[gJ hk]at h2;cases h1;cases h2;exact hb
 ·have h1:(s.books.set k b')[j]? =az b:=h1;rw[wQ e]at h1 h2;exact h.bk j b L h1 h2
def MSt.Rep.take {s:MSt} {p:Prd} {B:List (List zG)} (h:s.Rep p B) {id q:Int} {k:Nat} (hi:bI B id=az k) {L:List zG} (hL:B[k]? =az L) (hn:(L.map (·.id)).Nodup) {b':Book} (hb:b'.Rep (xR L id q).1):
 ({s with books:=s.books.set k b',wh:=if jU (xR L id q).1 id=ax then s.wh else z1z id s.wh}:MSt).Rep p (qM B id q).1:=by
 have hk:=(y1c.1 hL).1;have ht:(qM B id q).1=B.set k (xR L id q).1:=by simp only[qM,hi,zV hL]
 obtain⟨L2,e1,hh⟩:=uM hi;rw[hL]at e1;cases e1;obtain⟨rest,hr⟩:=zIp (B:=B) 0 k hk;have hL0:=hr L;rw[vQ hL]at hL0;rw[ht];rcases zMy hn id q with⟨e1,e2⟩|⟨e1,e2⟩
 ·have hm:∀X Y:List zG,X.map (·.id)=Y.map (·.id)->X.map (λo=>(o.id,((0+k:Nat):Int)))=Y.map (λo=>(o.id,((0+k:Nat):Int))):=by
   intro X Y e;have:=congrArg (aa λi:Int=>(i,((0+k:Nat):Int))) e;rw[y3j,y3j]at this;exact this
  have hp:(whL 0 (B.set k (xR L id q).1)).Perm (whL 0 B):=by
   refine(hr _).trans ?_;rw[hm _ _ e1];exact hL0.symm
  rw[e2,hh,y1a rfl];exact h.set hb hk (h.wh.trans hp.symm) ((hp.map (·.1)).nodup_iff.2 h.ids)
 ·rw[e2,y0y (by decide)];have hrest:∀x∈rest,x.1≠id:=by
   intro x hx e;have hnd:=(hL0.map (·.1)).nodup_iff.1 h.ids
   rw[y1i,y3j]at hnd;have h1:id∈L.map ((·.1)∘λo:zG=>(o.id,((0+k:Nat):Int))):=hasId_iff.1 hh
   exact(y3g.1 hnd).2.2 id h1 x.1 (y2c (f:=(·.1)) hx) e.symm
  have hp:(whL 0 (B.set k (xR L id q).1)).Perm ((whL 0 B).filter λx=> !decide (x.1=id)):=by
   refine(hr _).trans (.trans ?_ (hL0.filter _).symm);rw[e1,y4y,List.filter_map];have:rest.filter (λx=> !decide (x.1=id))=rest:=by
    rw[y6k];intro x hx;simp[hrest x hx]
   rw[this];exact .refl _
  refine h.set hb hk ?_ ((hp.map (·.1)).nodup_iff.2 (h.ids.sublist (List.Sublist.map _ y6l)))
  rw[z5f h.keys];exact(h.wh.filter _).trans hp.symm
def z2n (p:Prd) (B:List (List zG)) (inst id:Int) (s price q:Int):List (List zG)×Int:=
 if inst<0\/B.length<=inst then(B,20)else if(bI B id).isSome=ax then(B,25)else if 250<=(whL 0 B).length then(B,13)else if p.price inst price≠0 then(B,p.price inst price)
 else(B.set inst.toNat (zIf (B.getD inst.toNat []) s id price q).1,(zIf (B.getD inst.toNat []) s id price q).2)
def yAy (L:List zG) (s id p q:Int):((zSv L s id p q).map (·.id)).Perm (id::L.map (·.id)):=by
 have:∀X:List zG,((X.takeWhile (before s p)++⟨id,s,p,q,uT L s p⟩::X.dropWhile (before s p)).map (·.id)).Perm (id::X.map (·.id)):=by
  intro X
  conv=>rhs;rw[<- y6m (p:=before s p) (l:=X)]
  rw[y1i,y1m,y1i];exact y1n
 rw[zSv];split
 ·refine(this _).trans ?_;rw[z5p]
 ·exact this _
def MSt.Rep.add {s:MSt} {p:Prd} {B:List (List zG)} (h:s.Rep p B) (inst id:Int) (sd:Bool) (price q:Int):
 (MSt.addF ⟨s,inst,id,sd,price,q⟩).1.Rep p (z2n p B inst id (zC sd) price q).1/\(MSt.addF ⟨s,inst,id,sd,price,q⟩).2=(z2n p B inst id (zC sd) price q).2:=by
 have hsd:zC sd=1\/zC sd=2:=by cases sd;exact .inl rfl;exact .inr rfl
 rw[MSt.addF,z2n];dsimp only;rw[h.bl,h.at_,h.wh.length_eq,show s.p.price inst price=p.price inst price by rw[h.ep],Option.isSome_map];by_cases c1:inst<0\/(B.length:Int)<=inst
 ·rw[y1a c1,y1a c1];exact⟨h,rfl⟩
 rw[y0y c1,y0y c1];by_cases c2:(bI B id).isSome=ax
 ·rw[y1a c2,y1a c2];exact⟨h,rfl⟩
 rw[y0y c2,y0y c2];by_cases c3:250<=(whL 0 B).length
 ·rw[y1a c3,y1a c3];exact⟨h,rfl⟩
 rw[y0y c3,y0y c3];by_cases c4:p.price inst price≠0
 ·rw[y1a c4,y1a c4];exact⟨h,rfl⟩
 rw[y0y c4,y0y c4];obtain⟨k,hk⟩:∃k:Nat,inst=k:=⟨inst.toNat,oM⟩
 subst hk;rw[y1o];have hkl:k<B.length:=by omega
 obtain⟨b,hb⟩:=yE (l:=s.books) (i:=k) (by rw[h.bl];exact hkl);obtain⟨L,hL⟩:=yE (l:=B) (i:=k) hkl;have hba:s.bookAt k=b:=by rw[MSt.bookAt,y1o];exact zV hb
 rw[hba,zV hL];obtain⟨r1,r2⟩:=(h.bk k b L hb hL).add hsd id price q;refine⟨?_,r2⟩;rw[r2];obtain⟨rest,hr⟩:=zIp (B:=B) 0 k hkl;have hL0:=hr L;rw[vQ hL]at hL0;have hcase:(zIf L (zC sd) id price q).2≠0/\(zIf L (zC sd) id price q).1=L\/(zIf L (zC sd) id price q).2=0/\(zIf L (zC sd) id price q).1=zSv L (zC sd) id price q:=by
  rw[zIf]
  repeat' split
  ·exact .inl ⟨by simp,rfl⟩
  ·exact .inl ⟨by simp,rfl⟩
  ·exact .inl ⟨by simp,rfl⟩
  ·exact .inr ⟨rfl,rfl⟩
 rcases hcase with⟨e1,e2⟩|⟨e1,e2⟩
 ·rw[y0y e1];refine h.set r1 hkl ?_ ?_
  ·rw[e2,vQ hL];exact h.wh
  ·rw[e2,vQ hL];exact h.ids
 ·rw[y1a e1];have hnk:id∉s.wh.map (·.1):=by
   intro hm;obtain⟨x,hx,rfl⟩:=y2m.1 hm;have:=zRr h.keys hx;rw[h.at_]at this;cases hq:bI B x.1 with
   |none=>rw[hq]at this;cases this
   |some j=>rw[hq]at c2;exact c2 rfl
  have hp:(whL 0 (B.set k (zIf L (zC sd) id price q).1)).Perm ((id,(k:Int))::whL 0 B):=by
   refine(hr _).trans (.trans ?_ (hL0.symm.cons _));rw[e2,<- y2p];refine cf _ ?_;have:=(yAy L (zC sd) id price q).map λi:Int=>(i,(k:Int))
   rw[y3j,y1m,y3j]at this;rw[y1x];exact this
  refine h.set r1 hkl ?_ ((hp.map (·.1)).nodup_iff.2 (y3l.2 ⟨?_,h.ids⟩))
  ·rw[zYb hnk];exact(y5h _ _).trans ((h.wh.cons _).trans hp.symm)
  ·rw[<- (h.wh.map (·.1)).mem_iff];exact hnk
def zRs:∀(n k:Nat),whL k (ab n [])=[]
 |0,_=>rfl
 |n+1,k=>by rw[y5e,whL,zRs];rfl
def zZy (p:Prd):(dS p).Rep p (ab p.count []):=by
 refine⟨rfl,by simp[dS],λk b L h1 h2=> ?_,?_,?_⟩
 ·have e1:b=book0:=y6j (y1j (show(ab p.count book0)[k]? =az b from h1));have e2:L=[]:=y6j (y1j h2);rw[e1,e2];exact z8d
 ·rw[zRs];exact .refl _
 ·rw[zRs];exact List.nodup_nil
def yMl (s:Bool):Con:=zR BkL (λi=>[.nm 0 0,zA (zC s)]) (λi=>[z6 i.b]) (λi=>i.b.Rep i.L) (λ_=> .own 1) (λi=>[z6 i.b,.own 127 3 ((uD i.L (zC s)).map lvE)])
def lad1C:Con:=yMl ay
def lad2C:Con:=yMl ax
def yVt (s:Bool) (i:BkL):List SAnn:=[{ι:=Nat,slots:=λj=>[(5,.own 0),(19,zA j)],rows:=λj=>[.own 127 3 (((uD i.L (zC s)).take j).map lvE)]}]
structure BkT where
 b:Book
 L:List zG
 s:Bool
def ladC:Con:=zR BkT (λi=>[.nm 0 0,zA (zC i.s)]) (λi=>[z6 i.b]) (λi=>i.b.Rep i.L) (λ_=> .own 1) (λi=>[z6 i.b,.own 127 3 ((uD i.L (zC i.s)).map lvE)])
@[reducible] def yFv (s:MSt):List AObj:=[xH s 0,xH s 1,xH s 2,xH s 3,xH s 4]
def topsOC:Con:=zR MSt (λ_=>[.nm 0 0]) (λs=>yFv s) MSt.cntOk (λs=> .own 5) (λs=>yFv s++[.own 166 6 (s.tops.map zZ)])
structure StI where
 s:MSt
 p:Prd
 B:List (List zG)
 id:Int
 q:Int
def stakeC:Con where
 ι:=StI
 pat:=λi=>[.nm 0 0,zA i.id,zA i.q]
 pre:=λi=>[zD i.s]
 cnd:=λi=>i.s.Rep i.p i.B/\i.B.length<=1000
 alts:=λi=>[{o:=MSt,res:=λ_=>zA (qM i.B i.id i.q).2,post:=λs=>[zD s],rel:=λs=>s.Rep i.p (qM i.B i.id i.q).1}]
def zP (B:List (List zG)) (id:Int):Int×zG×Bool:=match bI B id with
 |none=>(0,yRr,ay)
 |some k=>(k,fV (B.getD k []) id,ax)
def sfindC:Con:=zR StI (λi=>[.nm 0 0,zA i.id]) (λi=>[zD i.s]) (λi=>i.s.Rep i.p i.B/\i.B.length<=1000) (λi=> .tup [zA (zP i.B i.id).1,z0x (zP i.B i.id).2.1,yT (zP i.B i.id).2.2]) (λi=>[zD i.s])
end Sx
