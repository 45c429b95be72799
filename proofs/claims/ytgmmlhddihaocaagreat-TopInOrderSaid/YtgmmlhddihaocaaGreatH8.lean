/- Texts of ours. No condition. -/
import Derived.Test.YtgmmlhddihaocaaGreatH7
set_option linter.all false
open List renaming map->aa,replicate->ab,take->ac,getElem?_modify->ae,pairwise_append->af,find?_eq_none->ag,filter_congr->aj,nodup_nil->ak,length_erase_of_mem->am,map_singleton->ao,range->ap,drop->aq
open Bool renaming true->ar,false->au
open Sx.fw renaming sv->av,cells->aw,own->ax,kh->ay
open Option renaming some->ba,none->bc
open Go.Builtin renaming zeroCells->be,firstCells->bg,append_->bo
open Go.IntKind renaming i64->bu
open Go renaming Value->bv,World->cd,Program->ce,size_zeroCells->cf,TypeId->cg,Addr->ci
open Go.Value renaming int->cm
open Function renaming comp->cn
open List.Perm renaming append_right->co,append_left->cp
namespace Sx
set_option maxRecDepth 100000
open Go Cv Go.Proofs
def yLj {l:List Int} {q r:Int} (h:yV l q=ar) (h0:0<=r) (h1:r<=q):yV l r=ar:=by
 obtain⟨a,b,c,d⟩:=j7 h;have e:(l.all λn=>decide (1<=n) && decide (n<=1000000))=ar:=by
  rw[DO];intro x hx;simpa using c x hx
 rw[yV,e,kx a,kx h0,kx (show r<=l.sum by omega)];rfl
def getD_none {l:List Int} {n:Nat} (h:l[n]? =bc):l.getD n 0=0:=by rw[mi,h];rfl
def zFt {l:List Int} {q:Int} (h:yV l q=ar) (n:Nat):0<=l.getD n 0/\l.getD n 0<=1000000:=by
 cases hn:l[n]? with
 |none=>rw[getD_none hn];decide
 |some x=>rw[zJ hn];have:=(j7 h).2.2.1 x (mc hn);omega
def yIq {l:List Int} {q:Int} (h:yV l q=ar) (n:Nat):0<=(fJ l q).getD n 0/\(fJ l q).getD n 0<=l.getD n 0:=by
 rw[fJ,fk h];obtain⟨a,b,c,d⟩:=j7 h;cases hn:l[n]? with
 |none=>
  have:(fC l q)[n]? =bc:=by rw[List.getElem?_eq_none_iff,l8];exact List.getElem?_eq_none_iff.1 hn
  rw[getD_none hn,getD_none this];decide
 |some x=>
  rw[zJ hn,zJ (Yx l q n x hn)];have:=YI l q n b (λy hy=>by have:=c y hy;omega);have:=c x (mc hn);omega
def xAi (i:JJ) (h:RM.du i):y8q i:=by
 obtain⟨hl,hq,hle,WG⟩:i.l.length<=1000000/\ie i.q/\ie i.least/\ie i.part:=h;unfold y8q fp ez Uy vG;have no (e:¬(yV i.l i.q=ar/\0<=i.part/\i.part<=100/\1<=i.least)):Ci i=[]:=by rw[Ci,dx e]
 refine⟨⟨i.l,i.q⟩,rfl,rfl,⟨hl,hq⟩,λ_ _=>Cv.du.mk (λc=> ?_) (λc=>zI (λd=> ?_) (λd=>zI (λe=> ?_) (λe=>zI (λf=> ?_) (λf=> ?_))))⟩
 ·have c:yV i.l i.q=au:=by simpa using c
  exact⟨(),by rw[no (by rw[c];simp)];rfl,trivial⟩
 ·exact⟨(),by rw[no (by omega)];rfl,trivial⟩
 ·exact⟨(),by rw[no (by omega)];rfl,trivial⟩
 ·exact⟨(),by rw[no (by omega)];rfl,trivial⟩
 have c:yV i.l i.q=ar:=by simpa using c
 obtain⟨h1,h2,h3,h4⟩:=j7 c;have tw:=TR c;have m0:0<=i.q*i.part:=Nf h2 oM;have m1:i.q*i.part<=i.q*100:=Wd oM h2;have hr:=yLj (r:=i.q*i.part / 100) c oM oM;have es:Ci i=rM i.rs:=by rw[Ci,fk ⟨c,by omega,by omega,by omega⟩]
 refine⟨⟨i.q,i.part,100⟩,rfl,rfl,rfl,⟨Z9,Z9,Z9,Z9,Z9,Z9⟩,λ_ _=>⟨⟨i.l,i.q*i.part / 100⟩,rfl,rfl,⟨hl,Z9,Z9⟩,λ_ _=>⟨i.rs,rfl,rfl,?_,rfl,⟨h1,?_,?_,hle,?_⟩,λ_ _=>⟨(),by rw[es],trivial⟩⟩⟩⟩
 ·rw[iD (by dsimp only;omega)];rfl
 ·show(fJ i.l (i.q*i.part / 100)).length=i.l.length;rw[fJ,fk hr,l8]
 ·show ie (i.q-i.q*i.part / 100);exact⟨oM,oM⟩
 ·intro n;have a:=yIq hr n;have b:=zFt c n;exact⟨a.1,a.2,b.2⟩
def y0u:RM.ok Tryz.prog 252:=ix mixed (dz Ul (dz zVm (dz yEo (dz yEr fx)))) 0 (λ_=>[]) (λ_=>[]) [] Tryz.func252 xAi
def y4v (n:Nat):ab n [D.v (.int .i64 0)]=iE (ab n 0):=by simp[iE]
def z2o (n k:Nat):(ab n (0:Int)).getD k 0=0:=by
 rw[mi,Wb];split<;>rfl
def yJp (n t k:Nat) (x:Int):((ab n (0:Int)).set t x).getD k 0=x/\k=t\/((ab n (0:Int)).set t x).getD k 0=0:=by
 rw[mi,GW];split
 ·rename_i e;split
  ·exact .inl ⟨rfl,e.symm⟩
  ·exact .inr rfl
 ·right;rw[<- mi];exact z2o n k
def xAk (i:wo) (h:RR.du i):y6n i:=by
 obtain⟨hl,hq,hle,hmo⟩:i.l.length<=1000000/\ie i.q/\ie i.least/\ie i.most:=h;unfold y6n fp ez XG OL Yw XR fp ez Uy vG dI;have no (e:¬(yV i.l i.q=ar/\1<=i.least/\0<=i.most)):CO i=[]:=by rw[CO,dx e]
 refine⟨⟨i.l,i.q⟩,rfl,rfl,⟨hl,hq⟩,λ_ _=>Cv.du.mk (λc=> ?_) (λc=>zI (λd=> ?_) (λd=>zI (λe=> ?_) (λe=> ?_)))⟩
 ·have c:yV i.l i.q=au:=by simpa using c
  exact⟨(),by rw[no (by rw[c];simp)];rfl,trivial⟩
 ·exact⟨(),by rw[no (by omega)];rfl,trivial⟩
 ·exact⟨(),by rw[no (by omega)];rfl,trivial⟩
 have c:yV i.l i.q=ar:=by simpa using c
 obtain⟨h1,h2,h3,h4⟩:=j7 c;have tw:=TR c;have es:CO i=rM i.rs:=by rw[CO,fk ⟨c,by omega,by omega⟩]
 simp only[yW,ml,y4v];have out (hn:¬(0<=i.top/\i.top<(i.l.length:Int))):i.rs=⟨i.l,ab i.l.length 0,i.least,i.q⟩:=by rw[wo.rs,dx hn]
 have ok0:qw.ok ⟨i.l,ab i.l.length 0,i.least,i.q⟩:=⟨h1,by simp,hq,hle,λn=>by
  have:=zFt c n;dsimp only;rw[z2o];omega⟩
 refine⟨⟨oM,oM,oM,oM⟩,zI (λa=>zI (λb=> ?_) (λb=> ?_)) (λa=> ?_)⟩
 ·obtain⟨n,hn⟩:=z6 (l:=i.l) (i:=i.top.toNat) oM;have hf:i.first=min (min n i.most) i.q:=by rw[wo.first,zJ hn]
  have bn:=h3 n (mc hn);have G8:(ab i.l.length (0:Int))[i.top.toNat]? =ba 0:=by rw[Wb,fk (by omega)]
  have ers:i.rs=⟨i.l,(ab i.l.length 0).set i.top.toNat i.first,i.least,i.q-i.first⟩:=by rw[wo.rs,fk ⟨by omega,by omega⟩]
  refine⟨⟨oM,oM⟩,n,rz hn,?_⟩;rw[Vu G8,<- hf];simp only[yW,rj,CW];refine⟨⟨oM,oM⟩,oM,⟨oM,oM⟩,i.first,rz (gO G8),?_⟩;rw[iD (x:=i.q-i.first) (by omega)];refine⟨⟨i.l,(ab i.l.length 0).set i.top.toNat i.first,i.least,i.q-i.first⟩,jh ⟨rfl,⟨h1,by simp,⟨Z9,Z9⟩,hle,λk=> ?_⟩,λ_ _=>⟨(),by rw[es,ers],trivial⟩⟩⟩;have bk:=zFt c k;dsimp only;rcases yJp i.l.length i.top.toNat k i.first with⟨g,gk⟩|g
  ·rw[g,gk,zJ hn];omega
  ·rw[g];omega
 ·refine⟨⟨i.l,ab i.l.length 0,i.least,i.q⟩,jh ⟨rfl,ok0,λ_ _=>⟨(),by rw[es,out (by omega)],trivial⟩⟩⟩
 ·refine⟨⟨i.l,ab i.l.length 0,i.least,i.q⟩,jh ⟨rfl,ok0,λ_ _=>⟨(),by rw[es,out (by omega)],trivial⟩⟩⟩
def y3e:RR.ok Tryz.prog 251:=ix mixed (dz Ul (dz yEr fx)) 0 (λ_=>[]) (λ_=>[]) [] Tryz.func251 xAk
structure Cs where
 p:fj
 l:List zE
 q:Int
def Cs.qs (i:Cs):List Int:=i.l.map (·.dq)
def qU (i:Cs):List Int:=if i.p.gw=1 then fJ i.qs i.q else if i.p.gw=2 then CO ⟨i.qs,jd i.l,i.p.top,i.p.least,i.q⟩else if i.p.gw=3 then Ci ⟨i.qs,i.p.part,i.p.least,i.q⟩else[]
def Gw:gx:=gh Cs (λi=>[oa i.p,ru 5 (i.l.map uA),zB i.q]) (λ_=>[]) (λi=>i.l.length<=1000/\ie i.q/\ie i.p.least/\ie i.p.top/\ie i.p.part) (λ_=> .own 0) (λi=>[.own 2 1 (iE (qU i))])
def y2j (i:Cs):List ib:=[{ι:=Nat,dv:=λj=>[(7,.own 0),(13,zB j)],rows:=λj=>[.own 2 1 (iE (i.qs.take j))]}]
def yLu (i:Cs):Prop:=
 ∃(a:Nat),(↑a:Int)=0/\iE (ac a i.qs)=[]/\∃(b:Nat->Prop),∃(c:Nat->Nat),b a/\∀(d:Nat),b d->du (decide ((↑d:Int)<(↑(aa uA i.l).length:Int))) ((0<=(↑d:Int)/\(↑d:Int)<(↑(aa uA i.l).length:Int))/\∃(e:Int),∃(f:Int),∃(g:Int),∃(h:Int),∃(j:Bool),zF (aa uA i.l) (↑d:Int).toNat 0 5=ba [dI e,dI f,dI g,dI h,D.v (.bool j)]/\((iE (ac d i.qs)).length+1)*(8:Nat)<=(140737488355328:Nat)/\∃(k:Nat),(↑k:Int)=bu.wrap ((↑d:Int)+1)/\iE (ac k i.qs)=iE (ac d i.qs)++[[dI h]]/\b k/\QD c k d i.p (dm (ay 1 (iE i.p.dr)))) (du (i.p.gw==1) (∃(e:Ca),iE e.l=iE (ac d i.qs)/\e.q=i.q/\(vG e)/\fp (ez (iE (qU i)=iE (fJ e.l e.q)/\True))) (du (i.p.gw==2) (∃(e:List zE),aa uA e=aa uA i.l/\e.length<=1000000/\fp (∃(g:wo),iE g.l=iE (ac d i.qs)/\g.top=jd e/\g.most=i.p.top/\g.least=i.p.least/\g.q=i.q/\(g.l.length<=1000000/\((-9223372036854775808)<=g.q/\g.q<=9223372036854775807)/\((-9223372036854775808)<=g.least/\g.least<=9223372036854775807)/\(-9223372036854775808)<=g.most/\g.most<=9223372036854775807)/\fp (ez (iE (qU i)=iE (CO g)/\True)))) (du (i.p.gw==3) (∃(e:JJ),iE e.l=iE (ac d i.qs)/\e.part=i.p.part/\e.least=i.p.least/\e.q=i.q/\(e.l.length<=1000000/\((-9223372036854775808)<=e.q/\e.q<=9223372036854775807)/\((-9223372036854775808)<=e.least/\e.least<=9223372036854775807)/\(-9223372036854775808)<=e.part/\e.part<=9223372036854775807)/\fp (ez (iE (qU i)=iE (Ci e)/\True))) (ez (iE (qU i)=[]/\True)))))
def y2i (i:Cs) (h:Gw.du i):yLu i:=by
 obtain⟨hl,hq,hle,ur,WG⟩:i.l.length<=1000/\ie i.q/\ie i.p.least/\ie i.p.top/\ie i.p.part:=h;have HN:i.qs.length=i.l.length:=by simp[Cs.qs]
 unfold yLu QD fp ez vG dI;simp only[yW,iz];refine⟨0,by(first|exact rfl|exact trivial),by(first|exact rfl|exact trivial),λj=>j<=i.l.length,λj=>i.l.length-j,oQ _,λj hj=>zI (λc=> ?_) (λc=> ?_)⟩
 ·have oF:j<i.l.length:=by omega
  obtain⟨o,ho⟩:=z6 (l:=i.l) (i:=j) oF;have hqo:i.qs[j]? =ba o.dq:=by rw[Cs.qs,uz,ho];rfl
  refine⟨⟨oM,oM⟩,o.id,o.side,o.dp,o.dq,o.top,y4l ho,by rw[oK];omega,j+1,um oM,?_,oF,Z9,ic⟩;rw[tv,hqo];simp[iE]
 have Fq:j=i.l.length:=by omega
 subst Fq;rw[oV (l:=i.qs) (by omega)];refine Cv.du.mk (λa=> ?_) (λa=>Cv.du.mk (λb=> ?_) (λb=>Cv.du.mk (λd=> ?_) (λd=> ?_)))
 ·have a:i.p.gw=1:=by simpa using a
  exact⟨⟨i.qs,i.q⟩,rfl,rfl,⟨Z9,hq⟩,λ_ _=>⟨(),by rw[qU,fk a],trivial⟩⟩
 ·have a:¬i.p.gw=1:=by simpa using a
  have b:i.p.gw=2:=by simpa using b
  exact⟨i.l,rfl,oM,λ_ _=>⟨⟨i.qs,jd i.l,i.p.top,i.p.least,i.q⟩,oT ⟨rfl,⟨Z9,hq,hle,ur⟩,λ_ _=>⟨(),by rw[qU,dx a,fk b],trivial⟩⟩⟩⟩
 ·have a:¬i.p.gw=1:=by simpa using a
  have b:¬i.p.gw=2:=by simpa using b
  have d:i.p.gw=3:=by simpa using d
  exact⟨⟨i.qs,i.p.part,i.p.least,i.q⟩,jh ⟨rfl,⟨Z9,hq,hle,WG⟩,λ_ _=>⟨(),by rw[qU,dx a,dx b,fk d],trivial⟩⟩⟩
 ·have a:¬i.p.gw=1:=by simpa using a
  have b:¬i.p.gw=2:=by simpa using b
  have d:¬i.p.gw=3:=by simpa using d
  exact⟨(),by rw[qU,dx a,dx b,dx d];rfl,trivial⟩
def yPt:Gw.ok Tryz.prog 238:=ix mixed (dz yEo (dz yGd (dz y3e (dz y0u fx)))) 0 (λ_=>[]) (λi=>y2j i) [] Tryz.func238 y2i
def uU (l:List Nat) (t:Int):Int:=match l with
 |[]=>t
 |k::_=>k
def jR:List Nat->Int->Int
 |[],p=>p
 |k::l,_=>jR l k
structure Vt (s:Slot) (n k:Nat) (p t:Int):Prop where
 used:s.used=ar
 no:s.n=k
 queue:s.queue=n
 ahead:s.ahead=p
 back:s.back=t
 q1:0<=s.dq
 q2:s.dq<=1000000
def zn (sl:List Slot) (n:Nat):Int->List Nat->Int->Prop
 |_,[],_=>True
 |p,k::l,t=>(∃s,sl[k]? =ba s/\Vt s n k p (uU l t))/\zn sl n k l t
def Zc (l1 l2:List Nat) (t:Int):uU (l1++l2) t=uU l1 (uU l2 t):=by cases l1<;>rfl
def mJ:∀(l1 l2:List Nat) (p:Int),jR (l1++l2) p=jR l2 (jR l1 p)
 |[],l2,p=>rfl
 |k::l1,l2,p=>mJ l1 l2 k
def MU {sl:List Slot} {n:Nat}:∀{l1 l2:List Nat} {p t:Int},zn sl n p (l1++l2) t↔zn sl n p l1 (uU l2 t)/\zn sl n (jR l1 p) l2 t
 |[],l2,p,t=>by simp[zn,jR]
 |k::l1,l2,p,t=>by
  rw[tu,zn,zn,Zc,MU,jR,and_assoc]
def yEh {sl:List Slot} {n k:Nat}:∀{l:List Nat} {p t:Int},zn sl n p l t->k∈l->∃s p' t',sl[k]? =ba s/\Vt s n k p' t'
 |j::l,p,t,h,hk=>by
  rcases ku.1 hk with rfl|hk
  ·obtain⟨⟨s,h1,h2⟩,_⟩:=h;exact⟨s,_,_,h1,h2⟩
  ·exact yEh h.2 hk
def uJ {sl Py:List Slot} {n:Nat}:∀{l:List Nat} {p t:Int},(∀k∈l,Py[k]? =sl[k]?)->zn sl n p l t->zn Py n p l t
 |[],p,t,_,h=>h
 |k::l,p,t,e,⟨⟨s,h1,h2⟩,h3⟩=>⟨⟨s,by rw[e k jg];exact h1,h2⟩,uJ (λj hj=>e j (jx _ hj)) h3⟩
def c8 {α:Type} {l:List α} {f:α->α} {i j:Nat} (h:i≠j):(l.modify i f)[j]? =l[j]? :=by rw[ae];cases l[j]? <;>simp[h]
def IY {α:Type} {l:List α} {f:α->α} {i:Nat} {x:α} (h:l[i]? =ba x):(l.modify i f)[i]? =ba (f x):=by rw[ae,h];simp
def h9 {α:Type} {l:List α} {x:α} {i j:Nat} (h:i≠j):(l.set i x)[j]? =l[j]? :=by rw[GW,dx h]
def uM {α:Type} {l:List α} {x:α} {i:Nat} (h:i<l.length):(l.set i x)[i]? =ba x:=by rw[GW,fk rfl,fk h]
def uO {α:Type} {Q:List α} {n m:Nat} {x y:α} (h:(Q.set n x)[m]? =ba y):(m=n/\y=x)\/(m≠n/\Q[m]? =ba y):=by
 by_cases e:n=m
 ·subst e;have hn:n<Q.length:=by
   have:=(ju.1 h).1;simpa using this
  rw[uM hn]at h;cases h;exact .inl ⟨rfl,rfl⟩
 ·rw[h9 e]at h;exact .inr ⟨λc=>e c.symm,h⟩
def z5f {sl:List Slot} {n k:Nat} {l:List Nat} {p t:Int} (t':Int) (hk:k∉l) (h:zn sl n p (l++[k]) t):zn (sl.modify k λs=>{s with back:=t'}) n p (l++[k]) t':=by
 rw[MU]at h ⊢;obtain⟨h1,⟨s,h2,h3⟩,_⟩:=h;refine⟨uJ (λj hj=>c8 (λe=>hk (e▸hj))) h1,⟨_,IY h2,?_⟩,trivial⟩;exact⟨h3.used,h3.no,h3.queue,h3.ahead,rfl,h3.q1,h3.q2⟩
def yFv {sl:List Slot} {n k:Nat} {l:List Nat} {p t:Int} (p':Int) (hk:k∉l) (h:zn sl n p (k::l) t):zn (sl.modify k λs=>{s with ahead:=p'}) n p' (k::l) t:=by
 obtain⟨⟨s,h1,h2⟩,h3⟩:=h;refine⟨⟨_,IY h1,?_⟩,uJ (λj hj=>c8 (λe=>hk (e▸hj))) h3⟩;exact⟨h2.used,h2.no,h2.queue,rfl,h2.back,h2.q1,h2.q2⟩
def vN (l:List Nat):l=[]\/∃(x:List Nat) (j:Nat),l=x++[j]/\∀p:Int,jR l p=(j:Int):=by
 rcases List.eq_nil_or_concat l with rfl|⟨x,j,rfl⟩
 ·exact .inl rfl
 ·exact .inr ⟨x,j,by simp,λp=>by rw[List.concat_eq_append,mJ];rfl⟩
def sU (l:List Nat):jR l (-1)= -1↔l=[]:=by
 rcases vN l with rfl|⟨x,j,rfl,e⟩
 ·simp[jR]
 ·rw[e];simp
def zXh (l:List Nat):uU l (-1)= -1↔l=[]:=by
 cases l with
 |nil=>simp[uU]
 |cons k l=>simp only[uU];constructor
            ·intro h;omega
            ·intro h;cases h
def MS {α β:Type} {g:α->β} {f:α->α} (h:∀x,g (f x)=g x):∀(l:List α) (i:Nat),(l.modify i f).map g=l.map g
 |[],i=>by simp
 |a::l,0=>by simp[h]
 |a::l,i+1=>by rw[Nq,iT,iT,MS h l i]
def Yh:∀(m:Nat) {l:List Nat},l.Nodup->(∀k∈l,k<m)->l.length<=m
 |0,[],_,_=>mg 0
 |0,k::l,_,h=>absurd (h k jg) oM
 |m+1,l,hn,h=>by
  have:=Yh m (hn.erase m) λk hk=>by
   have:=(hn.mem_erase_iff).1 hk;have:=h k this.2;omega
  by_cases hm:m∈l
  ·rw[am hm]at this;omega
  ·rw[List.erase_of_not_mem hm]at this;omega
def yEt {f g:Nat->Int} {k:Nat}:∀{l:List Nat},l.Nodup->k∈l->(∀j∈l,j≠k->g j=f j)->(l.map g).sum=(l.map f).sum+(g k-f k)
 |j::l,hn,hk,h=>by
  have hn:=ve.1 hn;rw[iT,iT,oR,oR];rcases ku.1 hk with rfl|hk
  ·have:l.map g=l.map f:=vy λi hi=>h i (jx _ hi) (λe=>hn.1 (e▸hi))
   rw[this];omega
  ·have e:=h j jg (λe=>hn.1 (e▸hk));rw[yEt hn.2 hk (λi hi=>h i (jx _ hi)),e];omega
def yKu {f:Nat->Int} {m:Int}:∀{l:List Nat},(∀j∈l,0<=f j/\f j<=m)->0<=(l.map f).sum/\(l.map f).sum<=m*l.length
 |[],_=>by simp
 |j::l,h=>by
  have:=h j jg;have:=yKu (l:=l) λi hi=>h i (jx _ hi)
  rw[iT,oR,iY,Int.natCast_add,Int.mul_add];simp only[Int.natCast_one,Int.mul_one];omega
def dw.o5 (a:dw) (l:List Nat):Int:=(l.map λk=>(a.fg k).dq).sum
structure dw.zo (a:dw) (Q:List (List Nat)):Prop where
 len:a.dv.length=250
 ql:a.dy.length=Q.length
 q:∀(n:Nat) (l:List Nat),Q[n]? =ba l->a.dy[n]? =ba ⟨uU l (-1),jR l (-1),a.o5 l,l.length⟩
 sg:∀(n:Nat) (l:List Nat),Q[n]? =ba l->zn a.dv n (-1) l (-1)
 nd:∀(n:Nat) (l:List Nat),Q[n]? =ba l->l.Nodup
 us:∀(k:Nat) (s:Slot),a.dv[k]? =ba s->s.used=ar->∃(n:Nat) (l:List Nat),Q[n]? =ba l/\k∈l
 free:a.free=((a.dv.map (·.used)).countP (!·):Nat)
structure dw.Wf (a:dw) (Q:List (List Nat)):Prop extends a.zo Q where
 pos:∀(n:Nat) (l:List Nat),Q[n]? =ba l->∀k∈l,1<=(a.fg k).dq
def dw.zo.mem {a:dw} {Q:List (List Nat)} (h:a.zo Q) {n k:Nat} {l:List Nat} (hl:Q[n]? =ba l) (hk:k∈l):k<250/\(∃p t,Vt (a.fg k) n k p t)/\a.dv[k]? =ba (a.fg k):=by
 obtain⟨s,p,t,h1,h2⟩:=yEh (h.sg n l hl) hk;have e:a.fg k=s:=zJ h1;have iq:=(ju.1 h1).1;rw[h.len]at iq;exact⟨iq,⟨p,t,by rw[e];exact h2⟩,by rw[e];exact h1⟩
def dw.zo.one {a:dw} {Q:List (List Nat)} (h:a.zo Q) {n m k:Nat} {l l':List Nat} (hl:Q[n]? =ba l) (HS:Q[m]? =ba l') (hk:k∈l) (tb:k∈l'):n=m:=by
 obtain⟨_,⟨_,_,h1⟩,_⟩:=h.mem hl hk;obtain⟨_,⟨_,_,h2⟩,_⟩:=h.mem HS tb;have:=h1.queue;have:=h2.queue;omega
def dw.zo.short {a:dw} {Q:List (List Nat)} (h:a.zo Q) {n:Nat} {l:List Nat} (hl:Q[n]? =ba l):l.length<=250:=Yh 250 (h.nd n l hl) λk hk=>(h.mem hl hk).1
def pH {a a':dw} {l:List Nat} (h:∀k∈l,(a'.fg k).dq=(a.fg k).dq):a'.o5 l=a.o5 l:=by rw[dw.o5,dw.o5,vy h]
def dw.zo.sum {a:dw} {Q:List (List Nat)} (h:a.zo Q) {n:Nat} {l:List Nat} (hl:Q[n]? =ba l):0<=a.o5 l/\a.o5 l<=250000000:=by
 have:=yKu (f:=λk=>(a.fg k).dq) (m:=1000000) (l:=l) λj hj=>by
  obtain⟨_,⟨_,_,h1⟩,_⟩:=h.mem hl hj;exact⟨h1.q1,h1.q2⟩
 have:=h.short hl;rw[dw.o5];omega
def zVq {sl:List Slot} {n:Nat}:∀{l:List Nat} {p:Int},zn sl n p l (-1)->O8 sl (uU l (-1)) l
 |[],p,_=>rfl
 |k::l,p,⟨⟨s,h1,h2⟩,h3⟩=>by
  refine⟨rfl,(ju.1 h1).1,?_⟩;rw[zJ h1,h2.back];exact zVq h3
def dw.zo.ok {a:dw} {Q:List (List Nat)} (h:a.zo Q):a.D7:=by
 refine⟨by rw[h.len];decide,λk s hk hu=> ?_⟩;obtain⟨n,l,hl,rk⟩:=h.us k s hk hu;have hQ:=(ju.1 hl).1;have HN:=h.ql;obtain⟨l1,l2,rfl⟩:=List.append_of_mem rk;have Jv:=h.sg n _ hl;have ry:=h.nd n _ hl;rw[MU]at Jv;obtain⟨_,⟨s',h1,h2⟩,_⟩:=Jv;rw[hk]at h1;cases h1;have hq:=h2.queue;have hd:=AA.1 ry;have AG:=ve.1 hd.2.1;refine⟨⟨oM,oM⟩,h2.q2,?_,?_⟩
 ·rw[h2.ahead];rcases vN l1 with rfl|⟨x,j,rfl,e⟩
  ·exact .inl rfl
  ·have hj:j∈x++[j]:=by simp
   have EE:=(h.mem hl (yo _ hj)).1;rw[e,h.len];refine .inr ⟨oM,oM,λe2=> ?_⟩;have:j=k:=by omega
   exact hd.2.2 j hj k jg this
 ·rw[h2.back];cases l2 with
  |nil=>exact .inl rfl
  |cons j x=>
   have EE:=(h.mem hl (zp _ (jx _ jg))).1;rw[uU,h.len];refine .inr ⟨oM,oM,λe2=> ?_⟩;have:j=k:=by omega
   exact AG.1 (this▸jg)
def dw.zo.open {a:dw} {Q:List (List Nat)} (h:a.zo Q):a.tn.zo (Q++[[]]):=by
 have g:∀{n:Nat} {l:List Nat},(Q++[[]])[n]? =ba l->Q[n]? =ba l\/(n=Q.length/\l=[]):=by
  intro n l hl;rw[List.getElem?_append]at hl;split at hl
  ·exact .inl hl
  ·rename_i hn;have:=(ju.1 hl).1;simp only[Cj]at this;have e:n-Q.length=0:=by omega
   rw[e]at hl;cases hl;exact .inr ⟨oM,rfl⟩
 refine⟨h.len,by simp[dw.tn,h.ql],λn l hl=> ?_,λn l hl=> ?_,λn l hl=> ?_,λk s hk hu=> ?_,h.free⟩
 ·rcases g hl with hl|⟨rfl,rfl⟩
  ·show(a.dy++[nJ])[n]? =_;rw[Fb (by have:=(ju.1 hl).1;have:=h.ql;omega)];exact h.q n l hl
  ·show(a.dy++[nJ])[_]? =_;rw[<- h.ql,CY (mg _),Hx];rfl
 ·rcases g hl with hl|⟨rfl,rfl⟩
  ·exact h.sg n l hl
  ·trivial
 ·rcases g hl with hl|⟨rfl,rfl⟩
  ·exact h.nd n l hl
  ·exact ak
 ·obtain⟨n,l,hl,rk⟩:=h.us k s hk hu;exact⟨n,l,by rw[Fb (ju.1 hl).1];exact hl,rk⟩
def dw.Wf.open {a:dw} {Q:List (List Nat)} (h:a.Wf Q):a.tn.Wf (Q++[[]]):=by
 refine⟨h.tozo.open,λn l hl k hk=> ?_⟩;rw[List.getElem?_append]at hl;split at hl
 ·exact h.pos n l hl k hk
 ·have:=(ju.1 hl).1;simp only[Cj]at this;have e:n-Q.length=0:=by omega
  rw[e]at hl;cases hl;cases hk
def X0 {sl Py:List Slot} {n:Nat}:∀{l:List Nat} {p t:Int},(∀k∈l,∀s,sl[k]? =ba s->∃s',Py[k]? =ba s'/\s'.used=s.used/\s'.n=s.n/\s'.queue=s.queue/\s'.ahead=s.ahead/\s'.back=s.back/\0<=s'.dq/\s'.dq<=1000000)->zn sl n p l t->zn Py n p l t
 |[],p,t,_,h=>h
 |k::l,p,t,e,⟨⟨s,h1,h2⟩,h3⟩=>by
  obtain⟨s',q0,q1,q2,q3,q4,q5,q6,q7⟩:=e k jg s h1;exact⟨⟨s',q0,⟨q1.trans h2.used,q2.trans h2.no,q3.trans h2.queue,q4.trans h2.ahead,q5.trans h2.back,q6,q7⟩⟩,X0 (λj hj=>e j (jx _ hj)) h3⟩
def z1c (a:dw) (n:Int) (t:Bool) (j:Nat):(a.ng n t).fg j=if a.iB n=ar/\j=n.toNat then{a.fg j with top:=t}else a.fg j:=by
 rw[dw.ng];by_cases hu:a.iB n=ar
 ·rw[fk hu];by_cases e:j=n.toNat
  ·subst e;rw[fk ⟨hu,rfl⟩];have iq:n.toNat<a.dv.length:=by
    simp only[dw.iB,ld,sm]at hu;omega
   show(a.dv.modify n.toNat _).getD n.toNat iK=_;obtain⟨s,hs⟩:=z6 iq;rw[zJ (IY hs),xY hs]
  ·rw[dx (λh=>e h.2)];show(a.dv.modify n.toNat _).getD j iK=a.dv.getD j iK;rw[mi,c8 (λh=>e h.symm),mi]
 ·rw[dx hu,dx (λh=>hu h.1)]
def dw.Wf.top {a:dw} {Q:List (List Nat)} (h:a.Wf Q) (n:Int) (t:Bool):(a.ng n t).Wf Q:=by
 have hq:∀j,((a.ng n t).fg j).dq=(a.fg j).dq:=by
  intro j;rw[z1c];split<;>rfl
 by_cases hu:a.iB n=ar
 ·have e:a.ng n t={a with dv:=a.dv.modify n.toNat λs=>{s with top:=t}}:=by rw[dw.ng,fk hu]
  have hm:∀(k:Nat) (s:Slot),a.dv[k]? =ba s->∃s',(a.ng n t).dv[k]? =ba s'/\s'.used=s.used/\s'.n=s.n/\s'.queue=s.queue/\s'.ahead=s.ahead/\s'.back=s.back/\s'.dq=s.dq:=by
   intro k s hk;rw[e];by_cases ek:n.toNat=k
   ·subst ek;exact⟨_,IY hk,rfl,rfl,rfl,rfl,rfl,rfl⟩
   ·exact⟨s,by rw[c8 ek];exact hk,A6 rfl⟩
  have hl:(a.ng n t).dv.length=250:=by rw[e];simpa using h.len
  have Lg:(a.ng n t).dv.map (·.used)=a.dv.map (·.used):=by rw[e];exact MS (g:=λs:Slot=>s.used) (f:=λs:Slot=>{s with top:=t}) (λ_=>rfl) _ _
  refine⟨⟨hl,by rw[e];exact h.ql,λm l AE=> ?_,λm l AE=> ?_,h.nd,λk s hk hs=> ?_,by rw[Lg];rw[e];exact h.free⟩,λm l AE k hk=>by rw[hq];exact h.pos m l AE k hk⟩
  ·rw[pH λk _=>hq k];rw[e];exact h.q m l AE
  ·refine X0 (λk hk s hs=> ?_) (h.sg m l AE);obtain⟨s',q0,q1,q2,q3,q4,q5,q6⟩:=hm k s hs;obtain⟨_,⟨_,_,h2⟩,h3⟩:=h.mem AE hk;rw[hs]at h3;cases h3;exact⟨s',q0,q1,q2,q3,q4,q5,by rw[q6];exact h2.q1,by rw[q6];exact h2.q2⟩
  ·have iq:=(ju.1 hk).1;rw[hl,<- h.len]at iq;obtain⟨s0,h0⟩:=z6 iq;obtain⟨s',q0,q1,_⟩:=hm k s0 h0;rw[hk]at q0;cases q0;exact h.us k s0 h0 (by rw[<- q1];exact hs)
 ·have e:a.ng n t=a:=by rw[dw.ng,dx hu]
  rw[e];exact h
def zTi {sl:List Slot} {k:Nat} {s x:Slot} (hk:sl[k]? =ba s):((sl.set k x).map (·.used)).countP (!·)+(if s.used=ar then 0 else 1)=(sl.map (·.used)).countP (!·)+(if x.used=ar then 0 else 1):=by
 have iq:=(ju.1 hk).1;have e:(sl.map (·.used))[k]'(by simpa using iq)=s.used:=by
  rw[List.getElem_map,(ju.1 hk).2]
 rw[List.map_set,List.countP_set (by simpa using iq),e];have hp:s.used=au->1<=(sl.map (·.used)).countP (!·):=by
  intro h;apply List.countP_pos_iff.2;exact⟨s.used,pn (mc hk),by rw[h];rfl⟩
 generalize (sl.map (·.used)).countP (!·)=c at hp ⊢
 cases h1:s.used<;>cases h2:x.used
 all_goals
  simp only[h1,Je,Bool.not_true,nr,↓reduceIte,if_true,if_false]at hp ⊢
  try have hp:=hp trivial
  omega
def yBx {sl:List Slot}:(sl.map (·.used)).countP (!·)<=sl.length:=by
 have:=List.countP_le_length (p:=λb:Bool=> !b) (l:=sl.map (·.used))
 simpa using this
def dw.zo.unused {a:dw} {Q:List (List Nat)} (h:a.zo Q) (hf:a.free≠0):∃k:Nat,jM a.dv=k/\k<250/\a.dv[k]? =ba (a.fg k)/\(a.fg k).used=au/\∀(n:Nat) (l:List Nat),Q[n]? =ba l->k∉l:=by
 have hx:∃s∈a.dv,s.used=au:=by
  have hp:0<(a.dv.map (·.used)).countP (!·):=by have:=h.free;omega
  obtain⟨b,hb,oG⟩:=List.countP_pos_iff.1 hp;obtain⟨s,hs,rfl⟩:=oe.1 hb;exact⟨s,hs,by simpa using oG⟩
 obtain⟨s,hs,hu⟩:=hx;cases hi:a.dv.findIdx? λs=> !s.used with
 |none=>
  rw[Ps]at hi;have:=hi s hs;rw[hu]at this;cases this
 |some k=>
  have NO:=hi;rw[Nr]at hi;obtain⟨hk,G',_⟩:=hi;have DW:a.dv[k]? =ba a.dv[k]:=xl hk;have e:=xY DW;rw[<- e]at G';have G':(a.fg k).used=au:=by simpa using G'
  refine⟨k,by rw[jM,NO];rfl,by rw[<- h.len];exact hk,by rw[e];exact DW,G',λn l hl rk=> ?_⟩;obtain⟨_,⟨_,_,h2⟩,_⟩:=h.mem hl rk;have:=h2.used;rw[G']at this;cases this
def dw.Wf.put {a:dw} {Q:List (List Nat)} (h:a.Wf Q) {n:Nat} {l:List Nat} (hl:Q[n]? =ba l) (hf:a.free≠0) {id dq:Int} (top:Bool) (hq:1<=dq/\dq<=1000000):
 ∃k:Nat,jM a.dv=k/\k<250/\(a.fg k).used=au/\(∀(m:Nat) (l:List Nat),Q[m]? =ba l->k∉l)/\(a.put n id dq top).Wf (Q.set n (l++[k]))/\
  (∀j,((a.put n id dq top).fg j).qh=if j=k then⟨k,id,dq,top⟩else(a.fg j).qh)/\(a.put n id dq top).free=a.free-1:=by
 obtain⟨k,hk,tf,DW,G',P8⟩:=h.tozo.unused hf;have rk:=P8 n l hl;have Fo:=(ju.1 hl).1;have hqn:=h.q n l hl;have Fm:a.dy.getD n nJ=⟨uU l (-1),jR l (-1),a.o5 l,l.length⟩:=zJ hqn;have sx:=h.tozo.sum hl;have Ju:=h.tozo.short hl;have hlen:=h.len;have xy:=yBx (sl:=a.dv);have vo:=h.free;obtain⟨x,hx⟩:∃x:Slot,x=⟨ar,k,id,dq,top,n,jR l (-1),-1⟩:=⟨_,rfl⟩
 have hS:(a.put n id dq top).dv=if jR l (-1)= -1 then a.dv.set k x else(a.dv.set k x).modify (jR l (-1)).toNat λs=>{s with back:=k}:=by
  simp only[dw.put,ml,Fm,hk,hx]
 have Lm:(a.put n id dq top).dy=a.dy.set n ⟨uU (l++[k]) (-1),k,a.o5 l+dq,(l.length:Int)+1⟩:=by
  simp only[dw.put,ml,Fm,hk];rw[iD (by omega),iD (by omega)];congr 2;by_cases e:l=[]
  ·subst e;rfl
  ·rw[dx (λc=>e ((sU l).1 c)),Zc];cases l with
   |nil=>exact absurd rfl e
   |cons y ys=>rfl
 have hF:(a.put n id dq top).free=a.free-1:=by
  simp only[dw.put];rw[iD (by omega)]
 have ra:(a.dv.set k x)[k]? =ba x:=uM oM;have JC:jR l (-1)= -1\/∃(y:List Nat) (j:Nat),l=y++[j]/\jR l (-1)=(j:Int):=by
  rcases vN l with e|⟨y,j,e,e2⟩
  ·exact .inl ((sU l).2 e)
  ·exact .inr ⟨y,j,e,e2 _⟩
 have Cy:∀j,j≠k->(jR l (-1)≠(j:Int))->(a.put n id dq top).dv[j]? =a.dv[j]? :=by
  intro j hj hj2;rw[hS];split
  ·exact h9 (λe=>hj e.symm)
  ·rcases JC with e|⟨y,i,_,e⟩
   ·contradiction
   ·rw[c8 (by omega),h9 (λe=>hj e.symm)]
 have BI:(a.put n id dq top).dv[k]? =ba x:=by
  rw[hS];split
  ·exact ra
  ·rcases JC with e|⟨y,i,e1,e⟩
   ·contradiction
   ·have:i≠k:=by rintro rfl;exact rk (by rw[e1];simp)
    rw[c8 (by omega)];exact ra
 have tp:∀j,j≠k->((a.put n id dq top).fg j).qh=(a.fg j).qh/\((a.put n id dq top).fg j).used=(a.fg j).used/\((a.put n id dq top).fg j).dq=(a.fg j).dq:=by
  intro j hj;by_cases c:jR l (-1)=(j:Int)
  ·have e:(a.put n id dq top).dv=(a.dv.set k x).modify j λs=>{s with back:=k}:=by
    rw[hS,dx (by omega),c];rfl
   by_cases EE:j<a.dv.length
   ·obtain⟨s,hs⟩:=z6 EE;have h1:(a.put n id dq top).dv[j]? =ba {s with back:=k}:=by rw[e];exact IY (by rw[h9 (λe=>hj e.symm)];exact hs)
    rw[xY h1,xY hs];exact⟨rfl,rfl,rfl⟩
   ·have h1:(a.put n id dq top).dv[j]? =bc:=ue (by rw[e];simpa using EE);have h2:a.dv[j]? =bc:=ue oM;rw[dw.fg,dw.fg,mi,mi,h1,h2];exact⟨rfl,rfl,rfl⟩
  ·have:=Cy j hj c;rw[dw.fg,dw.fg,mi,mi,this];exact⟨rfl,rfl,rfl⟩
 have CI:(a.put n id dq top).fg k=x:=xY BI;have Eb:∀j,((a.put n id dq top).fg j).qh=if j=k then⟨k,id,dq,top⟩else(a.fg j).qh:=by
  intro j;split
  ·rename_i e;rw[e,CI,hx];rfl
  ·rename_i e;exact(tp j e).1
 have gQ:∀{m:Nat} {l':List Nat},(Q.set n (l++[k]))[m]? =ba l'->(m=n/\l'=l++[k])\/(m≠n/\Q[m]? =ba l'):=by
  intro m l' hm;exact uO hm
 have LF:zn (a.put n id dq top).dv n (-1) (l++[k]) (-1):=by
  rw[MU];refine⟨?_,⟨x,BI,?_⟩,trivial⟩
  ·rcases vN l with e|⟨y,j,e,e2⟩
   ·subst e;trivial
   ·have h0:=h.sg n l hl;have ry:=h.nd n l hl;rw[hS,dx (by rw[e2];omega),e2,ml];rw[e]at h0 ry rk ⊢;have hd:=AA.1 ry;refine z5f (k:Int) (λhj=>hd.2.2 j hj j jg rfl) (t:= -1) ?_;exact uJ (λi hi=>h9 (λe=>rk (e▸hi))) h0
  ·rw[hx];exact⟨rfl,rfl,rfl,rfl,rfl,Z9,hq.2⟩
 refine⟨k,hk,tf,G',P8,⟨⟨?_,?_,?_,?_,?_,?_,?_⟩,?_⟩,Eb,hF⟩
 ·rw[hS];split<;>simp[hlen]
 ·rw[Lm];simp[h.ql]
 ·intro m l' hm;rcases gQ hm with⟨rfl,rfl⟩|⟨e,hm⟩
  ·rw[Lm,uM (by rw[h.ql];exact Fo),mJ];have:(a.put m id dq top).o5 (l++[k])=a.o5 l+dq:=by
    rw[dw.o5,jz,Nh];have e1:l.map (λk=>((a.put m id dq top).fg k).dq)=l.map λk=>(a.fg k).dq:=vy λj hj=>(tp j (λe=>rk (e▸hj))).2.2
    rw[e1];simp only[iT,CS,oR,List.sum_nil,CI];rw[hx,dw.o5];dsimp only;omega
   rw[this];simp[jR]
  ·rw[Lm,h9 (λc=>e c.symm),h.q m l' hm,pH];intro j hj;exact(tp j (λe=>P8 m l' hm (e▸hj))).2.2.symm
 ·intro m l' hm;rcases gQ hm with⟨rfl,rfl⟩|⟨e,hm⟩
  ·exact LF
  ·refine uJ (λj hj=>Cy j (λe=>P8 m l' hm (e▸hj)) λc=> ?_) (h.sg m l' hm);rcases JC with e2|⟨y,i,e1,e2⟩
   ·omega
   ·have:i=j:=by omega
    exact e (h.tozo.one hm hl hj (by rw[e1];simp[this]))
 ·intro m l' hm;rcases gQ hm with⟨rfl,rfl⟩|⟨e,hm⟩
  ·refine AA.2 ⟨h.nd m l hl,by simp,?_⟩;rintro i hi j hj rfl;rw[xj.1 hj]at hi;exact rk hi
  ·exact h.nd m l' hm
 ·intro j s hj hs;by_cases e:j=k
  ·exact⟨n,l++[k],uM Fo,by rw[e];simp⟩
  ·have hu:(a.fg j).used=ar:=by rw[<- (tp j e).2.1,xY hj];exact hs
   have EE:j<a.dv.length:=by
    have:=(ju.1 hj).1;rw[hS]at this;split at this<;>simpa using this
   obtain⟨s',iR⟩:=z6 EE;rw[xY iR]at hu;obtain⟨m,l',hm,P9⟩:=h.us j s' iR hu;by_cases em:m=n
   ·subst em;rw[hl]at hm;cases hm;exact⟨m,l++[k],uM Fo,yo _ P9⟩
   ·exact⟨m,l',by rw[h9 (λc=>em c.symm)];exact hm,P9⟩
 ·have Lg:(a.put n id dq top).dv.map (·.used)=(a.dv.set k x).map (·.used):=by
   rw[hS];split
   ·rfl
   ·exact MS (g:=λs:Slot=>s.used) (f:=λs:Slot=>{s with back:=k}) (λ_=>rfl) _ _
  have:=zTi (x:=x) DW;rw[G',dx (by decide),show x.used=ar by rw[hx],fk rfl]at this;rw[Lg,hF,vo];omega
 ·intro m l' hm j hj;rcases gQ hm with⟨rfl,rfl⟩|⟨e,hm⟩
  ·rcases qq.1 hj with hj|hj
   ·rw[(tp j (λe=>rk (e▸hj))).2.2];exact h.pos m l hl j hj
   ·rw[xj.1 hj,CI,hx];exact hq.1
  ·rw[(tp j (λe=>P8 m l' hm (e▸hj))).2.2];exact h.pos m l' hm j hj
def OG (a:dw) (k:Nat) (q:Int) (j:Nat) (hk:k<a.dv.length):(a.less k q).fg j=if j=k then{a.fg j with dq:=(a.fg j).dq-q}else a.fg j:=by
 split
 ·rename_i e;subst e;obtain⟨s,hs⟩:=z6 hk;rw[xY hs,xY (a:=a.less j q) (IY hs)]
 ·rename_i e;show(a.dv.modify k _).getD j iK=a.dv.getD j iK;rw[mi,c8 (λc=>e c.symm),mi]
def dw.zo.less {a:dw} {Q:List (List Nat)} (h:a.zo Q) {n k:Nat} {l:List Nat} (hl:Q[n]? =ba l) (hk:k∈l) {q:Int} (hq:0<=q/\q<=(a.fg k).dq):(a.less k q).zo Q:=by
 obtain⟨tf,⟨p,t,hs⟩,DW⟩:=h.mem hl hk;have rk:k<a.dv.length:=by rw[h.len];exact tf
 have hqt:(a.fg k).queue.toNat=n:=by rw[hs.queue];exact ml n
 have hm:∀(j:Nat) (s:Slot),a.dv[j]? =ba s->∃s',(a.less k q).dv[j]? =ba s'/\s'.used=s.used/\s'.n=s.n/\s'.queue=s.queue/\s'.ahead=s.ahead/\s'.back=s.back:=by
  intro j s hj;by_cases e:k=j
  ·subst e;exact⟨_,IY hj,rfl,rfl,rfl,rfl,rfl⟩
  ·exact⟨s,by rw[show(a.less k q).dv=a.dv.modify k _ from rfl,c8 e];exact hj,rfl,rfl,rfl,rfl,rfl⟩
 have yq:(a.less k q).dv.length=250:=by simpa[dw.less]using h.len
 have Fk:(a.less k q).dy=a.dy.modify n λx=>{x with total:=bu.wrap (x.total-q)}:=by rw[dw.less,hqt]
 have Lg:(a.less k q).dv.map (·.used)=a.dv.map (·.used):=MS (g:=λs:Slot=>s.used) (f:=λs:Slot=>{s with dq:=s.dq-q}) (λ_=>rfl) _ _
 refine⟨yq,by rw[Fk];simpa using h.ql,λm l' AE=> ?_,λm l' AE=> ?_,h.nd,λj s hj hu=> ?_,by rw[Lg];exact h.free⟩
 ·by_cases e:n=m
  ·subst e;rw[hl]at AE;cases AE;rw[Fk,IY (h.q n l hl)];have sx:=h.sum hl;have e2:(a.less k q).o5 l=a.o5 l-q:=by
    rw[dw.o5,dw.o5,yEt (k:=k) (f:=λk=>(a.fg k).dq) (h.nd n l hl) hk]
    ·rw[OG a k q k rk,fk rfl];dsimp only;omega
    ·intro j _ hj;rw[OG a k q j rk,dx hj]
   have h1:=hs.q2;rw[e2];dsimp only;rw[iD (by omega)]
  ·rw[Fk,c8 e,h.q m l' AE,pH];intro j hj;have:j≠k:=λc=>e (h.one hl AE hk (c▸hj))
   rw[OG a k q j rk,dx this]
 ·refine X0 (λj hj s iR=> ?_) (h.sg m l' AE);obtain⟨s',q0,q1,q2,q3,q4,q5⟩:=hm j s iR;refine⟨s',q0,q1,q2,q3,q4,q5,?_⟩;have e:=xY q0;rw[<- e,OG a k q j rk];obtain⟨_,⟨_,_,h2⟩,h3⟩:=h.mem AE hj;have:=h2.q1;have:=h2.q2;split
  ·rename_i c;subst c;dsimp only;omega
  ·omega
 ·have iq:=(ju.1 hj).1;rw[yq,<- h.len]at iq;obtain⟨s0,h0⟩:=z6 iq;obtain⟨s',q0,q1,_⟩:=hm j s0 h0;rw[hj]at q0;cases q0;exact h.us j s0 h0 (by rw[<- q1];exact hu)
def dw.zo.drop {a:dw} {Q:List (List Nat)} (h:a.zo Q) {n k:Nat} {l1 l2:List Nat} (hl:Q[n]? =ba (l1++k::l2)) (h0:(a.fg k).dq=0):
 (a.iP k).zo (Q.set n (l1++l2))/\(∀j,j≠k->((a.iP k).fg j).qh=(a.fg j).qh/\((a.iP k).fg j).used=(a.fg j).used/\((a.iP k).fg j).dq=(a.fg j).dq)/\(a.iP k).fg k=iK/\(a.iP k).free=a.free+1:=by
 have hkm:k∈l1++k::l2:=by simp
 have Fo:=(ju.1 hl).1;obtain⟨tf,_,DW⟩:=h.mem hl hkm;have hlen:=h.len;have rk:k<a.dv.length:=by omega
 have Jv:=h.sg n _ hl;have ry:=h.nd n _ hl;have hd:=AA.1 ry;have AG:=ve.1 hd.2.1;have k1:k∉l1:=λhk=>hd.2.2 k hk k jg rfl
 have k2:k∉l2:=AG.1;rw[MU]at Jv;obtain⟨g1,⟨s,vg,hs⟩,g2⟩:=Jv;have es:=xY vg;have eqn:(a.dy.getD s.queue.toNat nJ)=⟨uU (l1++k::l2) (-1),jR (l1++k::l2) (-1),a.o5 (l1++k::l2),(l1++k::l2).length⟩:=by
  rw[hs.queue,ml];exact zJ (h.q n _ hl)
 have vo:=h.free;have xy:=yBx (sl:=a.dv);have Ju:=h.short hl;obtain⟨AD,Ab⟩:∃AD,AD=if jR l1 (-1)= -1 then a.dv else a.dv.modify (jR l1 (-1)).toNat λx=>{x with back:=uU l2 (-1)}:=⟨_,rfl⟩
 obtain⟨C0,Aa⟩:∃C0,C0=if uU l2 (-1)= -1 then AD else AD.modify (uU l2 (-1)).toNat λx=>{x with ahead:=jR l1 (-1)}:=⟨_,rfl⟩
 have hS:(a.iP k).dv=C0.set k iK:=by
  simp only[dw.iP,es,hs.ahead,hs.back];rw[Aa,Ab]
 have Lm:(a.iP k).dy=a.dy.set n ⟨uU (l1++l2) (-1),jR (l1++l2) (-1),a.o5 (l1++l2),(l1++l2).length⟩:=by
  simp only[dw.iP,es,eqn,hs.ahead,hs.back];rw[hs.queue,ml];have el:(l1++k::l2).length=(l1++l2).length+1:=by simp;omega
  have eq:a.o5 (l1++k::l2)=a.o5 (l1++l2):=by
   rw[dw.o5,dw.o5,jz,Nh,jz,Nh,iT,oR,h0];omega
  rw[el]at Ju ⊢;rw[iD (by omega),eq];congr 2
  ·cases l1 with
   |nil=>simp[jR,Zc,uU]
   |cons y ys=>
    rw[dx (by rw[sU];simp)];rfl
  ·rcases vN l2 with e|⟨x,j,e,e2⟩
   ·subst e;simp[uU,mJ,jR]
   ·have:l2≠[]:=by rw[e];simp
    rw[dx (λc=>this ((zXh l2).1 c)),mJ,mJ,jR,e2,e2]
  ·simp
 have hF:(a.iP k).free=a.free+1:=by
  simp only[dw.iP];rw[iD (by omega)]
 have Co:jR l1 (-1)= -1\/∃(y:List Nat) (j:Nat),l1=y++[j]/\jR l1 (-1)=(j:Int):=by
  rcases vN l1 with e|⟨y,j,e,e2⟩
  ·exact .inl ((sU l1).2 e)
  ·exact .inr ⟨y,j,e,e2 _⟩
 have B5:uU l2 (-1)= -1\/∃(y:List Nat) (j:Nat),l2=j::y/\uU l2 (-1)=(j:Int):=by
  cases l2 with
  |nil=>exact .inl rfl
  |cons j y=>exact .inr ⟨y,j,rfl,rfl⟩
 have Cy:∀j,j∉l1->j∉l2->j≠k->(a.iP k).dv[j]? =a.dv[j]? :=by
  intro j h1 h2 h3;rw[hS,h9 (λe=>h3 e.symm),Aa];have e1:AD[j]? =a.dv[j]? :=by
   rw[Ab];split
   ·rfl
   ·rcases Co with e|⟨y,i,e,e2⟩
    ·contradiction
    ·rw[c8];rw[e2,ml];rintro rfl;exact h1 (by rw[e];simp)
  split
  ·exact e1
  ·rcases B5 with e|⟨y,i,e,e2⟩
   ·contradiction
   ·rw[c8,e1];rw[e2,ml];rintro rfl;exact h2 (by rw[e];simp)
 have tp:∀j,j≠k->((a.iP k).fg j).qh=(a.fg j).qh/\((a.iP k).fg j).used=(a.fg j).used/\((a.iP k).fg j).dq=(a.fg j).dq:=by
  intro j hj;have m1:∀(sl:List Slot) (i:Nat) (b:Int),((sl.modify i λx=>{x with back:=b}).getD j iK).qh=(sl.getD j iK).qh/\((sl.modify i λx=>{x with back:=b}).getD j iK).used=(sl.getD j iK).used/\((sl.modify i λx=>{x with back:=b}).getD j iK).dq=(sl.getD j iK).dq:=by
   intro sl i b;rw[mi,mi,ae];cases sl[j]? with
   |none=>exact⟨rfl,rfl,rfl⟩
   |some s=>by_cases e:i=j<;>simp[e,Slot.qh]
  have m2:∀(sl:List Slot) (i:Nat) (b:Int),((sl.modify i λx=>{x with ahead:=b}).getD j iK).qh=(sl.getD j iK).qh/\((sl.modify i λx=>{x with ahead:=b}).getD j iK).used=(sl.getD j iK).used/\((sl.modify i λx=>{x with ahead:=b}).getD j iK).dq=(sl.getD j iK).dq:=by
   intro sl i b;rw[mi,mi,ae];cases sl[j]? with
   |none=>exact⟨rfl,rfl,rfl⟩
   |some s=>by_cases e:i=j<;>simp[e,Slot.qh]
  have e0:(a.iP k).fg j=C0.getD j iK:=by
   rw[dw.fg,hS,mi,h9 (λe=>hj e.symm),mi]
  have e1:(AD.getD j iK).qh=(a.fg j).qh/\(AD.getD j iK).used=(a.fg j).used/\(AD.getD j iK).dq=(a.fg j).dq:=by
   rw[Ab];split
   ·exact⟨rfl,rfl,rfl⟩
   ·exact m1 _ _ _
  have e2:(C0.getD j iK).qh=(AD.getD j iK).qh/\(C0.getD j iK).used=(AD.getD j iK).used/\(C0.getD j iK).dq=(AD.getD j iK).dq:=by
   rw[Aa];split
   ·exact⟨rfl,rfl,rfl⟩
   ·exact m2 _ _ _
  rw[e0];exact⟨e2.1.trans e1.1,e2.2.1.trans e1.2.1,e2.2.2.trans e1.2.2⟩
 have hl1:AD.length=250:=by rw[Ab];split<;>simp[hlen]
 have NL:C0.length=250:=by rw[Aa];split<;>simp[hl1]
 have BI:(a.iP k).dv[k]? =ba iK:=by rw[hS];exact uM oM
 have LF:zn (a.iP k).dv n (-1) (l1++l2) (-1):=by
  rw[hS,MU];constructor
  ·--the part ahead
   refine uJ (sl:=C0) (λj hj=>h9 (λe=>k1 (e▸hj))) ?_;have f1:zn AD n (-1) l1 (uU l2 (-1)):=by
    rcases vN l1 with e|⟨y,j,e,e2⟩
    ·subst e;trivial
    ·rw[Ab,dx (by rw[e2];omega),e2,ml];subst e;have hd3:=AA.1 hd.1;exact z5f _ (λhj=>hd3.2.2 j hj j jg rfl) g1
   refine uJ (λj hj=> ?_) f1;rw[Aa];split
   ·rfl
   ·rcases B5 with e|⟨y,i,e,e2⟩
    ·contradiction
    ·refine c8 ?_;rw[e2,ml];rintro rfl;exact hd.2.2 i hj i (jx _ (by rw[e];simp)) rfl
  ·--the part behind
   refine uJ (sl:=C0) (λj hj=>h9 (λe=>k2 (e▸hj))) ?_;have f1:zn AD n k l2 (-1):=by
    refine uJ (λj hj=> ?_) g2;rw[Ab];split
    ·rfl
    ·rcases Co with e|⟨y,i,e,e2⟩
     ·contradiction
     ·refine c8 ?_;rw[e2,ml];rintro rfl;exact hd.2.2 i (by rw[e];simp) i (jx _ hj) rfl
   rcases B5 with e|⟨y,j,e,e2⟩
   ·rw[(zXh l2).1 e];trivial
   ·rw[Aa,dx (by rw[e2];omega),e2,ml];rw[e]at f1 AG ⊢;exact yFv _ (ve.1 AG.2).1 f1
 refine⟨⟨?_,?_,?_,?_,?_,?_,?_⟩,tp,xY BI,hF⟩
 ·rw[hS,rj];exact NL
 ·rw[Lm];simp[h.ql]
 ·intro m l' hm;rcases uO hm with⟨rfl,rfl⟩|⟨e,hm⟩
  ·rw[Lm,uM (by rw[h.ql];exact Fo)];congr 2;refine(pH λj hj=>(tp j λe=> ?_).2.2).symm;subst e;rcases qq.1 hj with hj|hj
   ·exact k1 hj
   ·exact k2 hj
  ·rw[Lm,h9 (λc=>e c.symm),h.q m l' hm];congr 2;refine(pH λj hj=>(tp j λe2=> ?_).2.2).symm;subst e2;exact e (h.one hm hl hj hkm)
 ·intro m l' hm;rcases uO hm with⟨rfl,rfl⟩|⟨e,hm⟩
  ·exact LF
  ·refine uJ (λj hj=>Cy j ?_ ?_ ?_) (h.sg m l' hm)
   ·exactλc=>e (h.one hm hl hj (yo _ c))
   ·exactλc=>e (h.one hm hl hj (zp _ (jx _ c)))
   ·rintro rfl;exact e (h.one hm hl hj hkm)
 ·intro m l' hm;rcases uO hm with⟨rfl,rfl⟩|⟨e,hm⟩
  ·refine AA.2 ⟨hd.1,AG.2,λi hi j hj=>hd.2.2 i hi j (jx _ hj)⟩
  ·exact h.nd m l' hm
 ·intro j s' hj hu;have P':j≠k:=by
   rintro rfl;rw[BI]at hj;cases hj;cases hu
  have hu2:(a.fg j).used=ar:=by rw[<- (tp j P').2.1,xY hj];exact hu
  have EE:j<a.dv.length:=by
   have:=(ju.1 hj).1;rw[hS,rj]at this;omega
  obtain⟨s0,PU⟩:=z6 EE;rw[xY PU]at hu2;obtain⟨m,l',hm,P9⟩:=h.us j s0 PU hu2;by_cases em:m=n
  ·subst em;rw[hl]at hm;cases hm;refine⟨m,_,uM Fo,?_⟩;rcases qq.1 P9 with hj|hj
   ·exact yo _ hj
   ·rcases ku.1 hj with e|hj
    ·exact absurd e P'
    ·exact zp _ hj
  ·exact⟨m,l',by rw[h9 (λc=>em c.symm)];exact hm,P9⟩
 ·have Lg:(a.iP k).dv.map (·.used)=(a.dv.set k iK).map (·.used):=by
   have e1:C0.map (·.used)=a.dv.map (·.used):=by
    have f2:C0.map (·.used)=AD.map (·.used):=by
     rw[Aa];split
     ·rfl
     ·exact MS (g:=λs:Slot=>s.used) (f:=λs:Slot=>{s with ahead:=jR l1 (-1)}) (λ_=>rfl) _ _
    have f1:AD.map (·.used)=a.dv.map (·.used):=by
     rw[Ab];split
     ·rfl
     ·exact MS (g:=λs:Slot=>s.used) (f:=λs:Slot=>{s with back:=uU l2 (-1)}) (λ_=>rfl) _ _
    rw[f2,f1]
   rw[hS,List.map_set,e1,List.map_set]
  have:=zTi (x:=iK) vg;rw[hs.used,fk rfl,show iK.used=au from rfl,dx (by decide)]at this;rw[Lg,hF,vo];omega
def dw.Wf.take {a:dw} {Q:List (List Nat)} (h:a.Wf Q) {n k:Nat} {l:List Nat} (hl:Q[n]? =ba l) (hk:k∈l) {q:Int} (hq:1<=q/\q<=(a.fg k).dq):
 (a.gz k q).2=0/\(∀j,j≠k->((a.gz k q).1.fg j).qh=(a.fg j).qh/\((a.gz k q).1.fg j).used=(a.fg j).used)/\
   (if(a.fg k).dq=q then(a.gz k q).1.Wf (Q.set n (l.erase k))/\(a.gz k q).1.fg k=iK/\(a.gz k q).1.free=a.free+1
    else(a.gz k q).1.Wf Q/\(a.gz k q).1.fg k={a.fg k with dq:=(a.fg k).dq-q}/\(a.gz k q).1.free=a.free):=by
 obtain⟨tf,⟨p,t,hs⟩,DW⟩:=h.tozo.mem hl hk;have rk:k<a.dv.length:=by rw[h.len];exact tf
 have hu:a.iB k=ar:=by
  simp only[dw.iB,ld,sm];refine⟨oM,oM,?_⟩;rw[ml];exact hs.used
 have FH:=h.tozo.less hl hk (q:=q) oM;have uf:=OG a k q;rw[dw.gz,dx (by rw[hu];decide),ml,dx (by omega)];by_cases e:(a.fg k).dq=q
 ·rw[fk e,fk e];obtain⟨l1,l2,rfl⟩:=List.append_of_mem hk;have ry:=h.nd n _ hl;have hd:=AA.1 ry;have k1:k∉l1:=λhk=>hd.2.2 k hk k jg rfl
  obtain⟨d1,d2,d3,d4⟩:=FH.drop hl (by rw[uf k rk,fk rfl];dsimp only;omega);have ee:(l1++k::l2).erase k=l1++l2:=by rw[List.erase_append_right _ k1,List.erase_cons_head]
  refine⟨rfl,λj hj=> ?_,?_,d3,d4⟩
  ·have:=d2 j hj;rw[uf j rk,dx hj]at this;exact⟨this.1,this.2.1⟩
  ·rw[ee];refine⟨d1,λm l' hm j hj=> ?_⟩;have hj2:j≠k/\∃Wq,Q[m]? =ba Wq/\j∈Wq:=by
    have AG:=ve.1 hd.2.1;rcases uO hm with⟨rfl,rfl⟩|⟨e3,hm⟩
    ·refine⟨?_,_,hl,?_⟩
     ·rintro rfl;rcases qq.1 hj with hj|hj
      ·exact k1 hj
      ·exact AG.1 hj
     ·rcases qq.1 hj with hj|hj
      ·exact yo _ hj
      ·exact zp _ (jx _ hj)
    ·refine⟨?_,_,hm,hj⟩;rintro rfl;exact e3 (h.tozo.one hm hl hj hk)
   obtain⟨hj3,Wq,hm2,hj4⟩:=hj2;have:=(d2 j hj3).2.2;rw[uf j rk,dx hj3]at this;dsimp only;rw[this];exact h.pos m Wq hm2 j hj4
 ·rw[dx e,dx e];refine⟨rfl,λj hj=> ?_,⟨FH,λm l' hm j hj=> ?_⟩,?_,rfl⟩
  ·dsimp only;rw[uf j rk,dx hj];exact⟨rfl,rfl⟩
  ·dsimp only;rw[uf j rk];split
   ·rename_i c;subst c;dsimp only;omega
   ·exact h.pos m l' hm j hj
  ·dsimp only;rw[uf k rk,fk rfl]
def xK {α β:Type} {f g:α->List β}:∀{l:List α},(∀x∈l,f x=g x)->l.flatMap f=l.flatMap g
 |[],_=>rfl
 |x::l,h=>by rw[xu,xu,h x jg,xK λy hy=>h y (jx _ hy)]
def IW {α β γ:Type} {f:α->List β} {g:β->γ}:∀(l:List α),(l.flatMap f).map g=l.flatMap λx=>(f x).map g
 |[]=>rfl
 |x::l=>by rw[xu,xu,jz,IW l]
def z7m {α β:Type} {f:α->List β}:∀{l:List α},(∀x∈l,f x≠[])->l.length<=(l.flatMap f).length
 |[],_=>mg 0
 |x::l,h=>by
  have:=z7m (l:=l) λy hy=>h y (jx _ hy)
  have:=List.length_pos_iff.2 (h x jg);rw[xu,iQ,iY];omega
def ZE {α:Type} [DecidableEq α]:∀{l m:List α},l.Nodup->(∀x∈l,x∈m)->l.length<=m.length
 |[],_,_,_=>oQ _
 |x::l,m,h,hs=>by
  have hd:=ve.1 h;have hx:=hs x jg;have:=ZE (l:=l) (m:=m.erase x) hd.2 λy hy=>by
   have jf:y≠x:=by rintro rfl;exact hd.1 hy
   exact(List.mem_erase_of_ne jf).2 (hs y (jx _ hy))
  rw[am hx]at this;have:=List.length_pos_of_mem hx;rw[iY];omega
def yGw {l:List Int} (h:l.Nodup) (hr:∀x∈l,0<=x/\x<l.length) {n:Nat} (hn:n<l.length):(n:Int)∈l:=by
 apply Classical.byContradiction;intro hx;have ry:((n:Int)::l).Nodup:=ve.2 ⟨hx,h⟩;have:=ZE (m:=(ap l.length).map λk:Nat=>(k:Int)) ry λy hy=>by
  rw[oe];rcases ku.1 hy with rfl|hy
  ·exact⟨n,zh.2 hn,rfl⟩
  ·have:=hr y hy;exact⟨y.toNat,zh.2 oM,oM⟩
 simp at this;omega
def OJ {α β:Type} {l:List (α×β)} (h:(l.map (·.1)).Nodup) {k:α} {x y:β} (hx:(k,x)∈l) (hy:(k,y)∈l):x=y:=by
 induction l with
 |nil=>cases hx
 |cons p l ih=>
  rw[iT,ve]at h;rcases ku.1 hx with ex|hx<;>rcases ku.1 hy with ey|hy
  ·rw[<- ex]at ey;exact(Prod.mk.inj ey).2.symm
  ·exact absurd (pn (f:=(·.1)) hy) (by rw[<- ex]at h;exact h.1)
  ·exact absurd (pn (f:=(·.1)) hx) (by rw[<- ey]at h;exact h.1)
  ·exact ih h.2 hx hy
def OP:∀{l:List (Int×Place)} {k:Int} {x:Place},lp l k=ba x->(k,x)∈l
 |[],k,x,h=>by cases h
 |p::l,k,x,h=>by
  rw[lp,KR]at h;by_cases e:p.1=k
  ·rw[kx e]at h;simp only[ym,Option.some.injEq]at h;subst h;subst e;exact jg
  ·rw[jq e]at h;exact jx _ (OP h)
def Zd {l:List (Int×Place)} {k:Int} (h:lp l k=bc):k∉l.map (·.1):=by
 intro hk;obtain⟨⟨k',x⟩,hx,rfl⟩:=oe.1 hk;rw[lp,Option.map_eq_none_iff,ag]at h;have:=h _ hx;simp at this
def z6o:∀{l:List (Int×Place)} {k:Int} {x:Place},k∉l.map (·.1)->lG k x l=l++[(k,x)]
 |[],k,x,_=>rfl
 |p::l,k,x,h=>by
  rw[iT,ku,not_or]at h;rw[lG,dx h.1,z6o h.2];rfl
def xI (Q:List (List Nat)) (r:xV):List Nat:=Q.getD r.queue.toNat []
def yKl (s p:Int) (e:D5):zE:=⟨e.id,s,p,e.dq,e.top⟩
def v7 (a:dw) (s p:Int) (k:Nat):zE:=yKl s p (a.fg k).qh
def dt.iv (b:dt) (Q:List (List Nat)) (s:Int) (r:xV):List zE:=(xI Q r).map (v7 b.a s r.dp)
def dt.iy (b:dt) (Q:List (List Nat)) (s:Int):List zE:=(b.eg s).flatMap (b.iv Q s)
def dt.flat (b:dt) (Q:List (List Nat)):List zE:=b.iy Q 1++b.iy Q 2
def uT (a:dw) (s p:Int) (k:Nat):Int×Place:=((a.fg k).id,⟨s,p,k⟩)
def dt.nh (b:dt) (Q:List (List Nat)) (s:Int):List (Int×Place):=(b.eg s).flatMap λr=>(xI Q r).map (uT b.a s r.dp)
def dt.qs (b:dt):List Int:=b.fv.map (·.queue)++b.ff.map (·.queue)++b.spare
structure dt.Core (b:dt) (Q:List (List Nat)) (hole:Int):Prop where
 wf:b.a.Wf Q
 uo:∀s,s=1\/s=2->(b.eg s).Pairwise λr r'=>jj s r.dp r'.dp=ar
 vf:∀q∈b.qs,0<=q/\q<Q.length
 nd:b.qs.Nodup
 ql:b.qs.length=Q.length
 ne:∀s,s=1\/s=2->∀r∈b.eg s,r.queue≠hole->xI Q r≠[]
 sp:∀q∈b.spare,Q.getD q.toNat []=[]
 at_:b.at_.Perm (b.nh Q 1++b.nh Q 2)
 ids:((b.flat Q).map (·.id)).Nodup
 qb:Q.length<=250
structure dt.BF (b:dt) (L:List zE):Prop where
 fl:∀o∈L,o.top=(b.nn o.side && decide (o.id=b.jd o.side))
 th:∀s,s=1\/s=2->b.nn s=ar->∃o∈L,o.side=s/\o.id=b.jd s
structure dt.fy (b:dt) (L:List zE):Prop where
 ex:∃Q,b.Core Q (-1)/\b.BF L/\L=b.flat Q
def m7 (b:dt) (Q:List (List Nat)) (s:Int):(b.nh Q s).map (·.1)=(b.iy Q s).map (·.id):=by
 rw[dt.nh,dt.iy,IW,IW];refine xK λr _=> ?_
 rw[dt.iv,xi,xi];rfl
def dt.Core.Aq {b:dt} {Q:List (List Nat)} {h:Int} (c:b.Core Q h):(b.at_.map (·.1)).Perm ((b.flat Q).map (·.id)):=by
 have:=c.at_.map (·.1)
 rw[jz,m7,m7,<- jz]at this;exact this
def dt.Core.keys {b:dt} {Q:List (List Nat)} {h:Int} (c:b.Core Q h):(b.at_.map (·.1)).Nodup:=c.Aq.nodup_iff.2 c.ids
def dt.Core.len {b:dt} {Q:List (List Nat)} {h:Int} (c:b.Core Q h):b.at_.length=(b.flat Q).length:=by
 have:=c.Aq.length_eq;simpa using this
def dt.Core.Fe {b:dt} {Q:List (List Nat)} {h:Int} (c:b.Core Q h) {s:Int} (hs:s=1\/s=2) {r:xV} (hr:r∈b.eg s) {k:Nat} (hk:k∈xI Q r):((b.a.fg k).id,(⟨s,r.dp,k⟩:Place))∈b.at_:=by
 refine c.at_.mem_iff.2 ?_;have hp:uT b.a s r.dp k∈b.nh Q s:=yg.2 ⟨r,hr,pn hk⟩;rcases hs with rfl|rfl
 ·exact yo _ hp
 ·exact zp _ hp
def dt.Core.RU {b:dt} {Q:List (List Nat)} {h:Int} (c:b.Core Q h) {id:Int} {x:Place} (hx:(id,x)∈b.at_):∃(k:Nat) (r:xV),(x.side=1\/x.side=2)/\r∈b.eg x.side/\k∈xI Q r/\x=⟨x.side,r.dp,k⟩/\(b.a.fg k).id=id:=by
 have:=c.at_.mem_iff.1 hx;rcases qq.1 this with hp|hp
 all_goals
  obtain⟨r,hr,hp⟩:=yg.1 hp;obtain⟨k,hk,e⟩:=oe.1 hp;simp only[uT,Prod.mk.injEq]at e;obtain⟨e1,rfl⟩:=e;exact⟨k,r,by simp,hr,hk,rfl,e1⟩
def z4o {Q:List (List Nat)} {r:xV} (h:0<=r.queue/\r.queue<Q.length):Q[r.queue.toNat]? =ba (xI Q r):=by
 obtain⟨l,hl⟩:=z6 (l:=Q) (i:=r.queue.toNat) oM;rw[xI,zJ hl,hl]
def fH {b:dt} {s:Int} (hs:s=1\/s=2) {r:xV} (hr:r∈b.eg s):r.queue∈b.qs:=by
 rcases hs with rfl|rfl
 ·exact yo _ (yo _ (pn (f:=(·.queue)) hr))
 ·exact yo _ (zp _ (pn (f:=(·.queue)) hr))
def dt.Core.get {b:dt} {Q:List (List Nat)} {h:Int} (c:b.Core Q h) {s:Int} (hs:s=1\/s=2) {r:xV} (hr:r∈b.eg s):Q[r.queue.toNat]? =ba (xI Q r):=z4o (c.vf _ (fH hs hr))
def Bo (L:List zE) (s:Int):List zE:=L.map λo=>if o.side=s then{o with top:=au}else o
def eU (s x:Int):jj s x x=au:=by
 rw[jj];split<;>exact jq oM
def dt.Core.flag {b:dt} {Q:List (List Nat)} {h:Int} (c:b.Core Q h) {a':dw} (hw:a'.Wf Q) (hi:∀k,(a'.fg k).id=(b.a.fg k).id):({b with a:=a'}:dt).Core Q h:=by
 have e1:∀s,({b with a:=a'}:dt).nh Q s=b.nh Q s:=by
  intro s;refine xK λr _=>vy λk _=> ?_
  simp only[uT,hi]
 have e2:((({b with a:=a'}:dt).flat Q).map (·.id))=(b.flat Q).map (·.id):=by
  rw[dt.flat,dt.flat,jz,jz,<- m7,<- m7,<- m7,<- m7,e1,e1]
 exact⟨hw,c.uo,c.vf,c.nd,c.ql,c.ne,c.sp,by rw[e1,e1];exact c.at_,by rw[e2];exact c.ids,c.qb⟩
def yRx (a:dw) (n:Int) (t:Bool) (k:Nat):((a.ng n t).fg k).id=(a.fg k).id:=by
 rw[z1c];split<;>rfl
def dt.Core.iZ {b:dt} {Q:List (List Nat)} {h:Int} (c:b.Core Q h) (s:Int):(b.iZ s).Wf Q/\∀k,((b.iZ s).fg k).id=(b.a.fg k).id:=by
 rw[dt.iZ]
 repeat' split
 all_goals first|exact⟨c.wf,λ_=>rfl⟩|exact⟨c.wf.top _ _,λk=>yRx _ _ _ k⟩
def dt.Core.CK {b:dt} {Q:List (List Nat)} {h:Int} (c:b.Core Q h) (ht:b.BF (b.flat Q)) {s:Int} (hs:s=1\/s=2):({b with a:=b.iZ s}:dt).flat Q=Bo (b.flat Q) s:=by
 have Bl:∀{s':Int} (iR:s'=1\/s'=2) {r:xV} (hr:r∈b.eg s') {k:Nat} (hk:k∈xI Q r),(b.a.fg k).top=(b.nn s' && decide ((b.a.fg k).id=b.jd s')):=by
  intro s' iR r hr k hk;have hm:v7 b.a s' r.dp k∈b.flat Q:=by
   have:v7 b.a s' r.dp k∈b.iy Q s':=yg.2 ⟨r,hr,pn hk⟩;rcases iR with rfl|rfl
   ·exact yo _ this
   ·exact zp _ this
  exact ht.fl _ hm
 have key:∀{s':Int} (iR:s'=1\/s'=2) {r:xV} (hr:r∈b.eg s') {k:Nat} (hk:k∈xI Q r),((b.iZ s).fg k).qh=if s'=s then{(b.a.fg k).qh with top:=au}else(b.a.fg k).qh:=by
  intro s' iR r hr k hk;have Ae:=c.Fe iR hr hk;have Ik:=Bl iR hr hk;have A7:(b.a.fg k).top=au->(b.a.fg k).qh=if s'=s then{(b.a.fg k).qh with top:=au}else(b.a.fg k).qh:=by
   intro e;split
   ·rw[Slot.qh,e]
   ·rfl
  rw[dt.iZ];by_cases hh:b.nn s=ar
  ·rw[fk hh];cases hg:lp b.at_ (b.jd s)with
   |none=>
    dsimp only;by_cases e:s'=s
    ·subst e;refine A7 ?_;rw[Ik,hh,qj];refine jq λe2=> ?_
     rw[<- e2]at hg;exact Zd hg (pn (f:=(·.1)) Ae)
    ·rw[dx e]
   |some o=>
    dsimp only;obtain⟨k',r',yu,wx,tf,ho,vi⟩:=c.RU (OP hg);by_cases es:o.side=s
    ·rw[fk es,z1c];have wy:o.slot=(k':Int):=by rw[ho]
     by_cases ek:k=k'
     ·subst ek;have hu:b.a.iB o.slot=ar:=by
       obtain⟨_,⟨_,_,h2⟩,h3⟩:=c.wf.tozo.mem (c.get iR hr) hk;have iq:=(ju.1 h3).1;simp only[dw.iB,ld,sm,wy,ml];exact⟨oM,oM,h2.used⟩
      rw[fk ⟨hu,by rw[wy];rfl⟩];have:=c.Fe yu wx tf;have e3:=OJ c.keys Ae this;have e4:s'=s:=by
       have:=congrArg Place.side e3;dsimp only at this;rw[this,es]
      rw[fk e4];rfl
     ·rw[dx (λe=>ek (by have:=e.2;rw[wy]at this;simpa using this))];by_cases e:s'=s
      ·subst e;refine A7 ?_;rw[Ik,hh,qj];refine jq λe2=>ek ?_
       have Jx:=c.Fe yu wx tf;rw[vi,<- e2]at Jx;have e3:=OJ c.keys Ae Jx;have:=congrArg Place.slot e3;dsimp only at this;omega
      ·rw[dx e]
    ·rw[dx es];by_cases e:s'=s
     ·subst e;refine A7 ?_;rw[Ik,hh,qj];refine jq λe2=>es ?_
      have Jx:=OP hg;rw[<- e2]at Jx;have e3:=OJ c.keys Ae Jx;rw[<- e3]
     ·rw[dx e]
  ·rw[dx hh];by_cases e:s'=s
   ·subst e;refine A7 ?_;have:b.nn s'=au:=by simpa using hh
    rw[Ik,this,vd]
   ·rw[dx e]
 have side:∀s',s'=1\/s'=2->({b with a:=b.iZ s}:dt).iy Q s'=Bo (b.iy Q s') s:=by
  intro s' iR;rw[Bo,dt.iy,dt.iy,IW];refine xK λr hr=> ?_
  rw[dt.iv,dt.iv,xi];refine vy λk hk=> ?_
  simp only[v7,cn,key iR hr hk,yKl];by_cases e:s'=s
  ·rw[fk e];exact(fk e).symm
  ·rw[dx e];exact(dx e).symm
 rw[dt.flat,side 1 (.inl rfl),side 2 (.inr rfl),dt.flat,Bo,Bo,Bo,jz]
def before (s p:Int) (o:zE):Bool:=decide (o.side<s)||(decide (o.side=s) && !jj s p o.dp)
def fG (L:List zE) (s p:Int):Bool:=L.all λo=> !decide (o.side=s)||jj s p o.dp
def Cf (L:List zE) (s id p q:Int):List zE:=
 let L1:=if fG L s p=ar then Bo L s else L
 L1.takeWhile (before s p)++⟨id,s,p,q,fG L s p⟩::L1.dropWhile (before s p)
def yJg {α:Type} {f:α->Bool}:∀{A B:List α},(∀x∈A,f x=ar)->(∀x∈B,f x=au)->(A++B).takeWhile f=A/\(A++B).dropWhile f=B
 |[],[],_,_=>⟨rfl,rfl⟩
 |[],b::B,_,h=>by
  have:=h b jg;simp[this]
 |a::A,B,h,h2=>by
  obtain⟨i1,i2⟩:=yJg (A:=A) (B:=B) (λx hx=>h x (jx _ hx)) h2;have:=h a jg;rw[tu,List.takeWhile_cons,List.dropWhile_cons,this];simp[i1,i2]
def qS {b:dt} {Q:List (List Nat)} {s:Int} {r:xV} {o:zE} (h:o∈b.iv Q s r):o.side=s/\o.dp=r.dp:=by
 obtain⟨k,_,rfl⟩:=oe.1 h;exact⟨rfl,rfl⟩
def m9 {b:dt} {Q:List (List Nat)} {s:Int} {o:zE} (h:o∈b.iy Q s):o.side=s/\∃r∈b.eg s,o∈b.iv Q s r/\o.dp=r.dp:=by
 obtain⟨r,hr,ho⟩:=yg.1 h;exact⟨(qS ho).1,r,hr,ho,(qS ho).2⟩
structure Spl (s p:Int) (R1 R2:List xV):Prop where
 a:∀r∈R1,jj s r.dp p=ar
 b:∀r∈R2,jj s p r.dp=ar
def z1p {s x y:Int} (h:jj s x y=ar):jj s y x=au:=by
 rw[jj]at h ⊢;split at h
 ·rename_i e;rw[fk e];have:=td h;exact jq oM
 ·rename_i e;rw[dx e];have:=td h;exact jq oM
def zWb {s x y z:Int} (h:jj s x y=ar) (h2:jj s y z=ar):jj s x z=ar:=by
 rw[jj]at h h2 ⊢;split at h
 ·rename_i e;rw[fk e]at h2 ⊢;have:=td h;have:=td h2;exact kx oM
 ·rename_i e;rw[dx e]at h2 ⊢;have:=td h;have:=td h2;exact kx oM
def yHk {s x y:Int} (h:jj s x y=au) (jf:x≠y):jj s y x=ar:=by
 rw[jj]at h ⊢;split at h
 ·rename_i e;rw[fk e];have:=Fa h;exact kx oM
 ·rename_i e;rw[dx e];have:=Fa h;exact kx oM
def ZY {s p:Int} {l:List xV} (hs:l.Pairwise λr r'=>jj s r.dp r'.dp=ar):
 (∀r∈l.take (yA s l p),jj s r.dp p=ar)/\
 (if jP s l p=ar then ∃r,l[yA s l p]? =ba r/\r.dp=p/\∀r'∈l.drop (yA s l p+1),jj s p r'.dp=ar
  else ∀r'∈l.drop (yA s l p),jj s p r'.dp=ar):=by
 have e1:l.take (yA s l p)=l.takeWhile λr=>jj s r.dp p:=by
  rw[yA];have h:=Ng (l₁:=l.takeWhile λr=>jj s r.dp p) (l₂:=l.dropWhile λr=>jj s r.dp p);rwa [We]at h
 have e2:l.drop (yA s l p)=l.dropWhile λr=>jj s r.dp p:=by
  have h:=A3 (yA s l p) l;have h2:=We (p:=λr:xV=>jj s r.dp p) (l:=l);rw[e1]at h;exact List.append_cancel_left (h.trans h2.symm)
 refine⟨λr hr=> ?_,?_⟩
 ·rw[e1]at hr;exact DO.1 List.all_takeWhile r hr
 have hd:∀r,l[yA s l p]? =ba r->jj s r.dp p=au:=by
  intro r hr;have h0:(l.drop (yA s l p))[0]? =ba r:=by rw[Bg];exact hr
  rw[e2]at h0;cases hdw:l.dropWhile λr=>jj s r.dp p with
  |nil=>rw[hdw]at h0;cases h0
  |cons x y=>
   rw[hdw]at h0;cases h0;have:=List.head?_dropWhile_not (λr:xV=>jj s r.dp p) l;rw[hdw]at this;simpa using this
 have hpw:∀r r',l[yA s l p]? =ba r->r'∈l.drop (yA s l p+1)->jj s r.dp r'.dp=ar:=by
  intro r r' hr oB;have iq:=(ju.1 hr).1;have:=List.Pairwise.sublist (List.drop_sublist (yA s l p) l) hs;rw[DQ iq,Ew,(ju.1 hr).2]at this;exact this.1 r' oB
 split
 ·rename_i hb;rw[jP]at hb;cases hr:l[yA s l p]? with
  |none=>rw[hr]at hb;cases hb
  |some r=>
   rw[hr]at hb;have hp:r.dp=p:=td hb;exact⟨r,rfl,hp,λr' oB=>by rw[<- hp];exact hpw r r' hr oB⟩
 ·rename_i hb;intro r' oB;by_cases iq:yA s l p<l.length
  ·obtain⟨r,hr⟩:=z6 iq;rw[jP,hr]at hb;have hp:¬r.dp=p:=λe=>hb (kx e)
   have h1:=yHk (hd r hr) hp;rw[DQ iq,(ju.1 hr).2]at oB;rcases ku.1 oB with rfl|oB
   ·exact h1
   ·exact zWb h1 (hpw r r' hr oB)
  ·rw[HD (by omega)]at oB;cases oB
def dt.sw (b:dt) (s:Int) (l:List xV):dt:=if s=1 then{b with fv:=l}else{b with ff:=l}
def yBe {b:dt} {s:Int} (hs:s=1\/s=2):∃rest,b.qs.Perm ((b.eg s).map (·.queue)++rest)/\∀l,(b.sw s l).qs.Perm (l.map (·.queue)++rest):=by
 rcases hs with rfl|rfl
 ·refine⟨b.ff.map (·.queue)++b.spare,?_,λl=> ?_⟩
  ·rw[dt.qs,km];exact .refl _
  ·show(l.map (·.queue)++b.ff.map (·.queue)++b.spare).Perm _
   rw[km]
 ·refine⟨b.fv.map (·.queue)++b.spare,?_,λl=> ?_⟩
  ·rw[dt.qs];show(b.fv.map (·.queue)++b.ff.map (·.queue)++b.spare).Perm (b.ff.map (·.queue)++(b.fv.map (·.queue)++b.spare))
   rw[<- km];exact Bh.append_right _
  ·show(b.fv.map (·.queue)++l.map (·.queue)++b.spare).Perm (l.map (·.queue)++(b.fv.map (·.queue)++b.spare))
   rw[<- km];exact Bh.append_right _
structure A0 (b:dt) (Q:List (List Nat)) (s p:Int) (b':dt) (n:Int) (Q':List (List Nat)) (R1 R2:List xV):Prop where
 core:b'.Core Q' n
 eg:b'.eg s=R1++⟨p,n⟩::R2
 lj:Spl s p R1 R2
 flat:b'.flat Q'=b.flat Q
 at_:b'.at_=b.at_
 free:b'.a.free=b.a.free
 fm:∀L,b.BF L->b'.BF L
 dq:∀x,b'.nn x=b.nn x/\b'.jd x=b.jd x
def yQi {α:Type} {l:List α} {x d:α} {n:Nat}:(l++[x]).getD n d=if n=l.length then x else l.getD n d:=by
 rw[mi,mi,List.getElem?_append];split
 ·rw[dx (by omega)]
 ·rename_i h;by_cases e:n=l.length
  ·rw[fk e,e,Hx];rfl
  ·rw[dx e,ue (show([x]:List α).length<=n-l.length by simp;omega),ue (by omega)]
def dt.Core.add {b:dt} {Q:List (List Nat)} (c:b.Core Q (-1)) {s p n:Int} (hs:s=1\/s=2) {R1 R2:List xV} (hr:b.eg s=R1++R2) (lj:Spl s p R1 R2) {b':dt} {Q':List (List Nat)}
 (WC:b'.eg s=R1++⟨p,n⟩::R2) (Fj:∀s',s'≠s->s'=1\/s'=2->b'.eg s'=b.eg s') (uf:b'.at_=b.at_) (hw:b'.a.Wf Q') (yq:b'.a.dv=b.a.dv)
 (hQ:∀k,Q'.getD k []=Q.getD k []) (hn:Q.getD n.toNat []=[]) (aaB:∀q∈b'.qs,0<=q/\q<Q'.length) (ry:b'.qs.Nodup) (HN:b'.qs.length=Q'.length) (te:∀q∈b'.spare,Q.getD q.toNat []=[]) (PY:Q'.length<=250):
 b'.Core Q' n/\b'.flat Q'=b.flat Q:=by
 have LD:∀r,xI Q' r=xI Q r:=λr=>hQ _
 have hsa:∀k,b'.a.fg k=b.a.fg k:=λk=>by rw[dw.fg,dw.fg,yq]
 have WK:xI Q ⟨p,n⟩=[]:=hn;have Im:∀s' r,b'.iv Q' s' r=b.iv Q s' r:=by
  intro s' r;rw[dt.iv,dt.iv,LD];exact vy λk _=>by rw[v7,v7,hsa]
 have WE:∀s' (r:xV),(xI Q' r).map (uT b'.a s' r.dp)=(xI Q r).map (uT b.a s' r.dp):=by
  intro s' r;rw[LD];exact vy λk _=>by rw[uT,uT,hsa]
 have pj:∀s',s'=1\/s'=2->b'.iy Q' s'=b.iy Q s':=by
  intro s' iR;rw[dt.iy,dt.iy];by_cases e:s'=s
  ·subst e;rw[WC,hr,zk,zk,xu,xK (λr _=>Im s' r),xK (l:=R2) (λr _=>Im s' r),Im,dt.iv,WK,CS,zi]
  ·rw[Fj s' e iR];exact xK λr _=>Im s' r
 have Ae:∀s',s'=1\/s'=2->b'.nh Q' s'=b.nh Q s':=by
  intro s' iR;rw[dt.nh,dt.nh];by_cases e:s'=s
  ·subst e;rw[WC,hr,zk,zk,xu,xK (λr _=>WE s' r),xK (l:=R2) (λr _=>WE s' r),WE,WK,CS,zi]
  ·rw[Fj s' e iR];exact xK λr _=>WE s' r
 have tq:b'.flat Q'=b.flat Q:=by rw[dt.flat,dt.flat,pj 1 (.inl rfl),pj 2 (.inr rfl)]
 refine⟨⟨hw,λs' iR=> ?_,aaB,ry,HN,λs' iR r oB jf=> ?_,λq hq=>by rw[hQ];exact te q hq,by rw[uf,Ae 1 (.inl rfl),Ae 2 (.inr rfl)];exact c.at_,by rw[tq];exact c.ids,PY⟩,tq⟩
 ·by_cases e:s'=s
  ·subst e;have h0:=c.uo s' iR;rw[hr,af]at h0;rw[WC,af,Ew];refine⟨h0.1,⟨lj.b,h0.2.1⟩,λx hx y hy=> ?_⟩;rcases ku.1 hy with rfl|hy
   ·exact lj.a x hx
   ·exact h0.2.2 x hx y hy
  ·rw[Fj s' e iR];exact c.uo s' iR
 ·rw[LD];have hold:∀r∈b.eg s',xI Q r≠[]:=λr hr=>c.ne s' iR r hr λe=>by
   have:=c.vf _ (fH iR hr);omega
  by_cases e:s'=s
  ·subst e;rw[WC]at oB;rcases qq.1 oB with h|h
   ·exact hold r (by rw[hr];exact yo _ h)
   ·rcases ku.1 h with rfl|h
    ·exact absurd rfl jf
    ·exact hold r (by rw[hr];exact zp _ h)
  ·rw[Fj s' e iR]at oB;exact hold r oB
def zRx (b:dt) {s:Int} (hs:s=1\/s=2) (l:List xV):(b.sw s l).eg s=l/\∀s',s'≠s->s'=1\/s'=2->(b.sw s l).eg s'=b.eg s':=by
 rcases hs with rfl|rfl
 ·exact⟨rfl,λs' h h2=>by rcases h2 with rfl|rfl;exact absurd rfl h;rfl⟩
 ·exact⟨rfl,λs' h h2=>by rcases h2 with rfl|rfl;rfl;exact absurd rfl h⟩
def yHy (b:dt) {s p:Int} (hs:s=1\/s=2):b.gr s p=if jP s (b.eg s) p=ar then(b,((b.eg s).getD (yA s (b.eg s) p) ⟨0,0⟩).queue)else(({b with a:=b.iW.2.2,spare:=b.iW.2.1}:dt).sw s (b.ins s p),b.iW.1):=by
 rcases hs with rfl|rfl<;>rfl
def dt.Core.queue {b:dt} {Q:List (List Nat)} (c:b.Core Q (-1)) (hl:(b.flat Q).length<250) {s:Int} (hs:s=1\/s=2) (p:Int):∃Q' R1 R2,A0 b Q s p (b.gr s p).1 (b.gr s p).2 Q' R1 R2:=by
 have te:=ZY (p:=p) (c.uo s hs);rw[yHy b hs];by_cases hb:jP s (b.eg s) p=ar
 ·rw[fk hb]at te ⊢;obtain⟨h1,r,hr,hp,h2⟩:=te;have iq:=(ju.1 hr).1;have er:(⟨p,r.queue⟩:xV)=r:=by rw[<- hp]
  have pk:b.eg s=(b.eg s).take (yA s (b.eg s) p)++r::(b.eg s).drop (yA s (b.eg s) p+1):=by
   conv=>lhs;rw[<- A3 (yA s (b.eg s) p) (b.eg s)]
   rw[DQ iq,(ju.1 hr).2]
  refine⟨Q,_,_,⟨⟨c.wf,c.uo,c.vf,c.nd,c.ql,λs' iR r' oB _=>c.ne s' iR r' oB λe=> ?_,c.sp,c.at_,c.ids,c.qb⟩,?_,⟨h1,h2⟩,rfl,rfl,rfl,λ_ h=>h,λ_=>⟨rfl,rfl⟩⟩⟩
  ·have:=c.vf _ (fH iR oB);omega
  ·dsimp only;rw[zJ hr,er];exact pk
 ·rw[dx hb]at te ⊢;obtain⟨h1,h2⟩:=te;have hr:b.eg s=(b.eg s).take (yA s (b.eg s) p)++(b.eg s).drop (yA s (b.eg s) p):=(A3 _ _).symm;obtain⟨g1,g2⟩:=zRx ({b with a:=b.iW.2.2,spare:=b.iW.2.1}:dt) hs (b.ins s p);have fm:∀x,((({b with a:=b.iW.2.2,spare:=b.iW.2.1}:dt).sw s (b.ins s p)).nn x=b.nn x/\(({b with a:=b.iW.2.2,spare:=b.iW.2.1}:dt).sw s (b.ins s p)).jd x=b.jd x):=by
   intro x;rcases hs with rfl|rfl<;>exact⟨rfl,rfl⟩
  have uf:(({b with a:=b.iW.2.2,spare:=b.iW.2.1}:dt).sw s (b.ins s p)).at_=b.at_:=by rcases hs with rfl|rfl<;>rfl
  have ha:(({b with a:=b.iW.2.2,spare:=b.iW.2.1}:dt).sw s (b.ins s p)).a=b.iW.2.2:=by rcases hs with rfl|rfl<;>rfl
  have Se:(({b with a:=b.iW.2.2,spare:=b.iW.2.1}:dt).sw s (b.ins s p)).spare=b.iW.2.1:=by rcases hs with rfl|rfl<;>rfl
  obtain⟨rest,q1,q2⟩:=yBe (b:=({b with a:=b.iW.2.2,spare:=b.iW.2.1}:dt)) hs;have q2:=q2 (b.ins s p);have Fk:(({b with a:=b.iW.2.2,spare:=b.iW.2.1}:dt).sw s (b.ins s p)).qs.Perm (b.iW.1::({b with a:=b.iW.2.2,spare:=b.iW.2.1}:dt).qs):=by
   refine q2.trans (.trans ?_ (q1.symm.cons _));rw[<- tu];refine co _ ?_;show((b.ins s p).map (·.queue)).Perm (b.iW.1::(b.eg s).map (·.queue))
   conv=>rhs;rw[hr]
   rw[dt.ins,jz,jz,iT];exact ni
  generalize hB:(({b with a:=b.iW.2.2,spare:=b.iW.2.1}:dt).sw s (b.ins s p))=B at*;have fin:∀Q',B.a.Wf Q'->B.a.dv=b.a.dv->B.a.free=b.a.free->(∀k,Q'.getD k []=Q.getD k [])->Q.getD b.iW.1.toNat []=[]->(∀q∈B.qs,0<=q/\q<Q'.length)->B.qs.Nodup->B.qs.length=Q'.length->(∀q∈B.spare,Q.getD q.toNat []=[])->Q'.length<=250->∃Q' R1 R2,A0 b Q s p B b.iW.1 Q' R1 R2:=by
   intro Q' w1 w2 w3 w4 w5 w6 w7 w8 w9 w10;obtain⟨u1,u2⟩:=c.add hs hr ⟨h1,h2⟩ (b':=B) (Q':=Q') (n:=b.iW.1) (by rw[g1];rfl) g2 uf w1 w2 w4 w5 w6 w7 w8 w9 w10;refine⟨Q',_,_,⟨u1,g1.trans rfl,⟨h1,h2⟩,u2,uf,w3,λL h=>⟨λo ho=> ?_,λs' iR hh=> ?_⟩,fm⟩⟩
   ·rw[(fm o.side).1,(fm o.side).2];exact h.fl o ho
   ·rw[(fm s').1]at hh;rw[(fm s').2];exact h.th s' iR hh
  by_cases he:b.spare.length=0
  ·have Fm:b.iW=((b.a.dy.length:Int),b.spare,b.a.tn):=by rw[dt.iW,fk he]
   have HN:=c.wf.ql;have aaz:b.spare=[]:=zm he;have Cx:B.qs.Perm ((Q.length:Int)::b.qs):=by
    rw[Fm]at Fk;rw[<- HN];exact Fk
   refine fin (Q++[[]]) (by rw[ha,Fm];exact c.wf.open) (by rw[ha,Fm];rfl) (by rw[ha,Fm];rfl) (λk=> ?_) ?_ (λq hq=> ?_) ?_ ?_ (λq hq=> ?_) ?_
   ·rw[yQi];split
    ·rename_i e;rw[e,mi,ue (mg _)];rfl
    ·rfl
   ·rw[Fm,mi,ue (by dsimp only;omega)];rfl
   ·rw[iQ];rcases ku.1 (Cx.mem_iff.1 hq)with rfl|hq
    ·simp only[Cj];omega
    ·have:=c.vf q hq;simp only[Cj];omega
   ·refine Cx.nodup_iff.2 (ve.2 ⟨λhm=> ?_,c.nd⟩);have:=c.vf _ hm;omega
   ·rw[Cx.length_eq,iY,iQ,c.ql];rfl
   ·rw[Se,Fm]at hq;rw[aaz]at hq;cases hq
   ·have h1:=z7m (l:=b.eg 1) (f:=b.iv Q 1) λr hr e=>c.ne 1 (.inl rfl) r hr (λe2=>by have:=c.vf _ (fH (.inl rfl) hr);omega) (List.map_eq_nil_iff.1 e)
    have h2:=z7m (l:=b.eg 2) (f:=b.iv Q 2) λr hr e=>c.ne 2 (.inr rfl) r hr (λe2=>by have:=c.vf _ (fH (.inr rfl) hr);omega) (List.map_eq_nil_iff.1 e)
    have h3:=c.ql;rw[dt.flat,iQ,dt.iy,dt.iy]at hl;rw[dt.qs,iQ,iQ,iz,iz,he]at h3;rw[tY]at h1 hl;rw[eN]at h2 hl;rw[iQ,Cj];omega
  ·have Fm:b.iW=(b.spare.getD (b.spare.length-1) 0,b.spare.take (b.spare.length-1),b.a):=by rw[dt.iW,dx he]
   obtain⟨sp,q,Il⟩:∃sp q,b.spare=sp++[q]:=⟨_,_,(List.dropLast_concat_getLast (l:=b.spare) (by intro e;rw[e]at he;exact he rfl)).symm⟩
   have e1:b.iW=(q,sp,b.a):=by
    rw[Fm,Il];simp
   have Cx:B.qs.Perm b.qs:=by
    refine Fk.trans ?_;rw[e1];show(q::(b.fv.map (·.queue)++b.ff.map (·.queue)++sp)).Perm (b.fv.map (·.queue)++b.ff.map (·.queue)++b.spare)
    rw[Il,<- km];exact Pv q _|>.symm
   have hq0:q∈b.spare:=by rw[Il];simp
   refine fin Q (by rw[ha,e1];exact c.wf) (by rw[ha,e1]) (by rw[ha,e1]) (λ_=>rfl) (by rw[e1];exact c.sp q hq0) (λq hq=>c.vf q (Cx.mem_iff.1 hq)) (Cx.nodup_iff.2 c.nd) (by rw[Cx.length_eq];exact c.ql) (λq' Le=> ?_) c.qb;rw[Se,e1]at Le;exact c.sp q' (by rw[Il];exact yo _ Le)
def dt.Core.used {b:dt} {Q:List (List Nat)} (c:b.Core Q (-1)) (hl:(b.flat Q).length<250):b.a.free≠0:=by
 intro hf;have Cn:=c.wf.free;rw[hf]at Cn;have hz:(b.a.dv.map (·.used)).countP (!·)=0:=by omega
 rw[List.countP_eq_zero]at hz;have qt:∀k∈ap 250,k∈((b.eg 1).flatMap (xI Q)++(b.eg 2).flatMap (xI Q)):=by
  intro k hk;have hk:=zh.1 hk;obtain⟨s,hs⟩:=z6 (l:=b.a.dv) (i:=k) (by rw[c.wf.len];exact hk);have hu:s.used=ar:=by
   have:=hz s.used (pn (mc hs));simpa using this
  obtain⟨n,l,hn,rk⟩:=c.wf.us k s hs hu;have Fo:=(ju.1 hn).1;have hm:(n:Int)∈b.qs:=yGw c.nd (λx hx=>by rw[c.ql];exact c.vf x hx) (by rw[c.ql];exact Fo);have e:∀r:xV,r.queue=(n:Int)->k∈xI Q r:=by
   intro r hr;rw[xI,hr,ml,zJ hn];exact rk
  rw[dt.qs]at hm;rcases qq.1 hm with hm|hm
  ·rcases qq.1 hm with hm|hm
   ·obtain⟨r,hr,er⟩:=oe.1 hm;exact yo _ (yg.2 ⟨r,hr,e r er⟩)
   ·obtain⟨r,hr,er⟩:=oe.1 hm;exact zp _ (yg.2 ⟨r,hr,e r er⟩)
  ·have:=c.sp _ hm;rw[ml,zJ hn]at this;rw[this]at rk;cases rk
 have h1:=ZE List.nodup_range qt;have e:∀s,(b.iy Q s).length=((b.eg s).flatMap (xI Q)).length:=by
  intro s;rw[dt.iy,Nm,Nm];congr 1;exact vy λr _=>by rw[dt.iv,iz]
 rw[iQ,<- e,<- e,List.length_range]at h1;rw[dt.flat,iQ]at hl;omega
def z1b {s p:Int} {o:zE} (h:o.side≠s) (iq:o.side=1\/o.side=2) (hs:s=1\/s=2):before s p o=decide (s=2):=by
 rw[before,jq h,vd,Bool.or_false];rcases hs with rfl|rfl
 ·rw[jq (by omega),jq (by omega)]
 ·rw[kx (by omega),kx rfl]
def A0.put {b:dt} {Q:List (List Nat)} {s p:Int} {b':dt} {n:Int} {Q':List (List Nat)} {R1 R2:List xV} (h:A0 b Q s p b' n Q' R1 R2) (hs:s=1\/s=2) {id dq:Int} (top:Bool) (vi:id∉(b.flat Q).map (·.id)) (hf:b.a.free≠0) (hq:1<=dq/\dq<=1000000):
 ∃Q3 A B,({b' with a:=(b'.a.push n id dq top).1,at_:=lG id ⟨s,p,(b'.a.push n id dq top).2.1⟩ b'.at_}:dt).Core Q3 (-1)/\b'.flat Q'=A++B/\
  ({b' with a:=(b'.a.push n id dq top).1,at_:=lG id ⟨s,p,(b'.a.push n id dq top).2.1⟩ b'.at_}:dt).flat Q3=A++⟨id,s,p,dq,top⟩::B/\(∀o∈A,before s p o=ar)/\∀o∈B,before s p o=au:=by
 have c:=h.core;have HL:(⟨p,n⟩:xV)∈b'.eg s:=by rw[h.eg];simp
 have hnr:0<=n/\n<Q'.length:=c.vf n (fH hs HL);obtain⟨m,rfl⟩:∃m:Nat,n=m:=⟨n.toNat,oM⟩
 have hl:Q'[m]? =ba (xI Q' ⟨p,m⟩):=z4o (r:=⟨p,m⟩) hnr;obtain⟨k,k1,k2,k3,k4,kw,R9,aa6⟩:=c.wf.put (id:=id) hl (by rw[h.free];exact hf) top hq;have SX:b'.a.push m id dq top=(b'.a.put m id dq top,(k:Int),0):=by
  have:=c.wf.ql;rw[dw.push,dx (by omega),dx (by omega),dx (by rw[h.free];exact hf),k1]
 rw[SX];dsimp only;have hmQ:=(ju.1 hl).1;have Fl:∀s' (r:xV),(s'=1\/s'=2)->r∈b'.eg s'->(r.queue=m->s'=s/\r=⟨p,m⟩):=by
  intro s' r iR hr e;obtain⟨rest,q1,_⟩:=yBe (b:=b') hs;have ry:=q1.nodup_iff.1 c.nd;rw[h.eg,jz,iT]at ry;by_cases es:s'=s
  ·subst es;refine⟨rfl,?_⟩;rw[h.eg]at hr;have Si:=(AA.1 ry).1;rcases qq.1 hr with hr|hr
   ·exact absurd e ((AA.1 Si).2.2 r.queue (pn (f:=(·.queue)) hr) m jg)
   ·rcases ku.1 hr with rfl|hr
    ·rfl
    ·have:=(ve.1 (AA.1 Si).2.1).1;exact absurd (e▸pn (f:=(·.queue)) hr) this
  ·exfalso;have Cn:=c.nd;rw[dt.qs]at Cn;have Sj:=(AA.1 (AA.1 Cn).1).2.2;have ha:(m:Int)∈(b'.eg s).map (·.queue):=oe.2 ⟨_,HL,rfl⟩
   have hb:(m:Int)∈(b'.eg s').map (·.queue):=oe.2 ⟨r,hr,e⟩
   rcases hs with rfl|rfl<;>rcases iR with rfl|rfl
   ·exact es rfl
   ·exact Sj _ ha _ hb rfl
   ·exact Sj _ hb _ ha rfl
   ·exact es rfl
 have Ab:xI (Q'.set m (xI Q' ⟨p,m⟩++[k])) ⟨p,m⟩=xI Q' ⟨p,m⟩++[k]:=by
  show(Q'.set m _).getD (Int.toNat (m:Int)) []=_;rw[ml];exact zJ (uM hmQ)
 have Aa:∀q:Int,0<=q->q≠m->(Q'.set m (xI Q' ⟨p,m⟩++[k])).getD q.toNat []=Q'.getD q.toNat []:=by
  intro q h0 jf;rw[mi,h9 (by omega),mi]
 generalize hQ3:Q'.set m (xI Q' ⟨p,m⟩++[k])=Q3 at*;have JH:Q3.length=Q'.length:=by rw[<- hQ3,rj]
 have abe:=m7;have AS:∀s' (r:xV),(s'=1\/s'=2)->r∈b'.eg s'->∀j∈xI Q' r,j≠k/\(v7 (b'.a.put m id dq top) s' r.dp j=v7 b'.a s' r.dp j/\uT (b'.a.put m id dq top) s' r.dp j=uT b'.a s' r.dp j):=by
  intro s' r iR hr j hj;have P':j≠k:=by rintro rfl;exact k4 _ _ (c.get iR hr) hj
  have:=R9 j;rw[dx P']at this;refine⟨P',by rw[v7,v7,this],?_⟩;have:=congrArg D5.id this;rw[uT,uT];exact congrArg (λi=>(i,(⟨s',r.dp,j⟩:Place))) this
 have G8:∀s' (r:xV),(s'=1\/s'=2)->r∈b'.eg s'->r.queue≠m->xI Q3 r=xI Q' r:=by
  intro s' r iR hr jf;exact Aa _ (c.vf _ (fH iR hr)).1 jf
 generalize hB:({b' with a:=b'.a.put m id dq top,at_:=lG id ⟨s,p,k⟩ b'.at_}:dt)=B3;have Rn:∀s',B3.eg s'=b'.eg s':=by intro s';rw[<- hB];rfl
 have Ro:B3.a=b'.a.put m id dq top:=by rw[<- hB]
 have aaW:B3.at_=lG id ⟨s,p,k⟩ b'.at_:=by rw[<- hB]
 have LR:B3.qs=b'.qs:=by rw[<- hB];rfl
 have aaV:B3.spare=b'.spare:=by rw[<- hB]
 have Fj:∀s' (r:xV),(s'=1\/s'=2)->r∈b'.eg s'->r.queue≠m->B3.iv Q3 s' r=b'.iv Q' s' r/\(xI Q3 r).map (uT B3.a s' r.dp)=(xI Q' r).map (uT b'.a s' r.dp):=by
  intro s' r iR hr jf;rw[dt.iv,dt.iv,G8 s' r iR hr jf,Ro];exact⟨vy λj hj=>(AS s' r iR hr j hj).2.1,vy λj hj=>(AS s' r iR hr j hj).2.2⟩
 have Ip:v7 B3.a s p k=⟨id,s,p,dq,top⟩/\uT B3.a s p k=(id,⟨s,p,k⟩):=by
  have:=R9 k;rw[fk rfl]at this;rw[v7,Ro,this];refine⟨rfl,?_⟩;have:=congrArg D5.id this;rw[uT];exact congrArg (λi=>(i,(⟨s,p,k⟩:Place))) this
 have Sf:B3.iv Q3 s ⟨p,m⟩=b'.iv Q' s ⟨p,m⟩++[⟨id,s,p,dq,top⟩]/\(xI Q3 ⟨p,m⟩).map (uT B3.a s p)=(xI Q' ⟨p,m⟩).map (uT b'.a s p)++[(id,⟨s,p,k⟩)]:=by
  rw[dt.iv,dt.iv,Ab,jz,jz,ao,ao];refine⟨?_,?_⟩
  ·rw[Ip.1,vy (g:=v7 b'.a s p) λj hj=>by rw[Ro];exact(AS s ⟨p,m⟩ hs HL j hj).2.1]
  ·rw[Ip.2,vy (g:=uT b'.a s p) λj hj=>by rw[Ro];exact(AS s ⟨p,m⟩ hs HL j hj).2.2]
 have WU:∀r∈R1,r∈b'.eg s/\r.queue≠m:=by
  intro r hr;have hm:r∈b'.eg s:=by rw[h.eg];exact yo _ hr
  refine⟨hm,λe=> ?_⟩;have e2:=(Fl s r hs hm e).2;have:=h.lj.a r hr;rw[e2,eU]at this;cases this
 have NQ:∀r∈R2,r∈b'.eg s/\r.queue≠m:=by
  intro r hr;have hm:r∈b'.eg s:=by rw[h.eg];exact zp _ (jx _ hr)
  refine⟨hm,λe=> ?_⟩;have e2:=(Fl s r hs hm e).2;have:=h.lj.b r hr;rw[e2,eU]at this;cases this
 have zA:B3.iy Q3 s=(R1.flatMap (b'.iv Q' s)++b'.iv Q' s ⟨p,m⟩)++⟨id,s,p,dq,top⟩::R2.flatMap (b'.iv Q' s):=by
  rw[dt.iy,Rn,h.eg,zk,xu,Sf.1,xK (l:=R1) (λr hr=>(Fj s r hs (WU r hr).1 (WU r hr).2).1),xK (l:=R2) (λr hr=>(Fj s r hs (NQ r hr).1 (NQ r hr).2).1)];simp
 have JQ:b'.iy Q' s=(R1.flatMap (b'.iv Q' s)++b'.iv Q' s ⟨p,m⟩)++R2.flatMap (b'.iv Q' s):=by
  rw[dt.iy,h.eg,zk,xu,km]
 have RT:(B3.nh Q3 s).Perm ((id,⟨s,p,k⟩)::b'.nh Q' s):=by
  rw[dt.nh,Rn,h.eg,zk,xu,Sf.2,xK (l:=R1) (λr hr=>(Fj s r hs (WU r hr).1 (WU r hr).2).2),xK (l:=R2) (λr hr=>(Fj s r hs (NQ r hr).1 (NQ r hr).2).2),dt.nh,h.eg,zk,xu];rw[km,List.singleton_append,<- km];refine ni.trans ?_;rw[km]
 have other:∀s',s'≠s->s'=1\/s'=2->B3.iy Q3 s'=b'.iy Q' s'/\B3.nh Q3 s'=b'.nh Q' s':=by
  intro s' jf iR;have Iq:∀r∈b'.eg s',r.queue≠m:=λr hr e=>jf (Fl s' r iR hr e).1
  rw[dt.iy,dt.iy,dt.nh,dt.nh,Rn];exact⟨xK λr hr=>(Fj s' r iR hr (Iq r hr)).1,xK λr hr=>(Fj s' r iR hr (Iq r hr)).2⟩
 have bA:∀o∈R1.flatMap (b'.iv Q' s)++b'.iv Q' s ⟨p,m⟩,before s p o=ar:=by
  intro o ho;rcases qq.1 ho with ho|ho
  ·obtain⟨r,hr,ho⟩:=yg.1 ho;obtain⟨e1,e2⟩:=qS ho;rw[before,e1,e2,z1p (h.lj.a r hr)];simp
  ·obtain⟨e1,e2⟩:=qS ho;rw[before,e1,e2,eU];simp
 have bB:∀o∈R2.flatMap (b'.iv Q' s),before s p o=au:=by
  intro o ho;obtain⟨r,hr,ho⟩:=yg.1 ho;obtain⟨e1,e2⟩:=qS ho;rw[before,e1,e2,h.lj.b r hr];simp
 have bO:∀s',s'≠s->s'=1\/s'=2->∀o∈b'.iy Q' s',before s p o=decide (s=2):=by
  intro s' jf iR o ho;have:=(m9 ho).1;exact z1b oM oM hs
 have Tc:∃A B,b'.flat Q'=A++B/\B3.flat Q3=A++⟨id,s,p,dq,top⟩::B/\(∀o∈A,before s p o=ar)/\∀o∈B,before s p o=au:=by
  rcases hs with rfl|rfl
  ·refine⟨_,R2.flatMap (b'.iv Q' 1)++b'.iy Q' 2,?_,?_,bA,λo ho=> ?_⟩
   ·rw[dt.flat,JQ];simp only[km]
   ·rw[dt.flat,zA,(other 2 (by decide) (.inr rfl)).1];simp only[km,tu]
   ·rcases qq.1 ho with ho|ho
    ·exact bB o ho
    ·exact bO 2 Z8 (.inr rfl) o ho
  ·refine⟨b'.iy Q' 1++(R1.flatMap (b'.iv Q' 2)++b'.iv Q' 2 ⟨p,m⟩),R2.flatMap (b'.iv Q' 2),?_,?_,λo ho=> ?_,bB⟩
   ·rw[dt.flat,JQ];simp only[km]
   ·rw[dt.flat,zA,(other 1 (by decide) (.inl rfl)).1];simp only[km]
   ·rcases qq.1 ho with ho|ho
    ·exact bO 1 Z8 (.inl rfl) o ho
    ·exact bA o ho
 obtain⟨A,B,f1,f2,f3,f4⟩:=Tc;refine⟨Q3,A,B,⟨by rw[Ro];exact kw,λs' iR=>by rw[Rn];exact c.uo s' iR,by rw[LR,JH];exact c.vf,by rw[LR];exact c.nd,by rw[LR,JH];exact c.ql,λs' iR r hr _=> ?_,λq hq=> ?_,?_,?_,by rw[JH];exact c.qb⟩,f1,f2,f3,f4⟩
 ·rw[Rn]at hr;by_cases e:r.queue=m
  ·obtain⟨rfl,rfl⟩:=Fl s' r iR hr e;rw[Ab];simp
  ·rw[G8 s' r iR hr e];exact c.ne s' iR r hr e
 ·rw[aaV]at hq;have NH:q∈b'.qs:=zp _ hq;rw[Aa q (c.vf q NH).1 λe=> ?_]
  ·exact c.sp q hq
  ·have Cn:=c.nd;rw[dt.qs]at Cn;refine(AA.1 Cn).2.2 m ?_ q hq e.symm;rcases hs with rfl|rfl
   ·exact yo _ (oe.2 ⟨_,HL,rfl⟩)
   ·exact zp _ (oe.2 ⟨_,HL,rfl⟩)
 ·have HR:id∉b'.at_.map (·.1):=by
   rw[c.Aq.mem_iff,h.flat];exact vi
  rw[aaW,z6o HR];refine(Pv _ _).trans ?_;rcases hs with rfl|rfl
  ·rw[(other 2 (by decide) (.inr rfl)).2];exact(c.at_.cons _).trans (RT.symm.append_right _)
  ·rw[(other 1 (by decide) (.inl rfl)).2];refine(c.at_.cons _).trans ?_;refine(ni.symm).trans (RT.symm.append_left _)
 ·rw[f2,jz,iT];have h1:=c.ids;rw[f1,jz]at h1;have h2:id∉(A++B).map (·.id):=by rw[<- f1,h.flat];exact vi
  refine ni.nodup_iff.2 (ve.2 ⟨by rw[jz]at h2;exact h2,h1⟩)
def kW (L:List zE) (id:Int):Bool:=L.any λo=>decide (o.id=id)
def lS (L:List zE) (s id p q:Int):List zE×Int:=if q<1\/1000000<q then(L,24)else if kW L id=ar then(L,25)else if 250<=L.length then(L,13)else(Cf L s id p q,0)
def iG {L:List zE} {id:Int}:kW L id=ar↔id∈L.map (·.id):=by
 rw[kW,Nj,oe];constructor
 ·rintro⟨o,ho,e⟩;exact⟨o,ho,td e⟩
 ·rintro⟨o,ho,e⟩;exact⟨o,ho,kx e⟩
def rY {b:dt} {Q:List (List Nat)} {o:zE} (h:o∈b.flat Q):(o.side=1\/o.side=2)/\∃r∈b.eg o.side,o∈b.iv Q o.side r/\o.dp=r.dp:=by
 rcases qq.1 h with h|h
 all_goals
  obtain⟨e,r,hr,ho,hp⟩:=m9 h;rw[e];exact⟨by simp,r,hr,ho,hp⟩
def BV {b:dt} {Q:List (List Nat)} {s:Int} (hs:s=1\/s=2) {o:zE} (h:o∈b.iy Q s):o∈b.flat Q:=by
 rcases hs with rfl|rfl
 ·exact yo _ h
 ·exact zp _ h
def dt.Core.leads {b:dt} {Q:List (List Nat)} (c:b.Core Q (-1)) {s:Int} (hs:s=1\/s=2) (p:Int):b.leads s p=fG (b.flat Q) s p:=by
 have Sc:=c.uo s hs;have jf:=c.ne s hs;rw[dt.leads];cases hr:b.eg s with
 |nil=>
  symm;dsimp only;rw[fG,DO];intro o ho;obtain⟨_,r,wx,_⟩:=rY ho;by_cases e:o.side=s
  ·rw[e,hr]at wx;cases wx
  ·rw[jq e];rfl
 |cons r0 l=>
  dsimp only;rw[hr,Ew]at Sc;have hm:r0∈b.eg s:=by rw[hr];exact jg
  cases hb:jj s p r0.dp with
  |true=>
   symm;rw[fG,DO];intro o ho;obtain⟨_,r,wx,_,hp⟩:=rY ho;by_cases e:o.side=s
   ·rw[e,hr]at wx;rw[hp];rcases ku.1 wx with rfl|wx
    ·rw[hb];simp
    ·rw[zWb hb (Sc.1 r wx)];simp
   ·rw[jq e];rfl
  |false=>
   symm;rw[fG,List.all_eq_false];have h0:=jf r0 hm λe=>by have:=c.vf _ (fH hs hm);omega
   cases hk:xI Q r0 with
   |nil=>exact absurd hk h0
   |cons k ks=>
    refine⟨v7 b.a s r0.dp k,BV hs (yg.2 ⟨r0,hm,by rw[dt.iv,hk];exact jg⟩),?_⟩;show ¬((!decide (s=s))||jj s p r0.dp)=ar;rw[hb];simp
def yAr {L:List zE} {s:Int} {o:zE} (h:o∈Bo L s):∃o'∈L,o.id=o'.id/\o.side=o'.side/\o.dp=o'.dp/\o.dq=o'.dq/\o.top=(if o.side=s then au else o'.top):=by
 obtain⟨o',ho,e⟩:=oe.1 h;refine⟨o',ho,?_⟩;by_cases c:o'.side=s
 ·rw[fk c]at e;subst e;exact(oT ((fk c).symm))
 ·rw[dx c]at e;subst e;exact(oT ((dx c).symm))
def yUc {L:List zE} {s:Int} {o:zE} (h:o∈L) (hs:o.side≠s):o∈Bo L s:=oe.2 ⟨o,h,dx hs⟩
def yDn (L:List zE) (s:Int):(Bo L s).map (·.id)=L.map (·.id):=by
 rw[Bo,xi];refine vy λo _=> ?_
 simp only[cn];split<;>rfl
def z2a (b:dt) (id:Int) {s:Int} (hs:s=1\/s=2):(b.jl id s).a=b.iZ s/\(b.jl id s).fv=b.fv/\(b.jl id s).ff=b.ff/\(b.jl id s).at_=b.at_/\(b.jl id s).spare=b.spare/\∀s',s'=1\/s'=2->(b.jl id s).nn s'=(if s'=s then ar else b.nn s')/\(b.jl id s).jd s'=(if s'=s then id else b.jd s'):=by
 rcases hs with rfl|rfl
 ·exact(A6 (λs' h=>by rcases h with rfl|rfl<;>exact⟨rfl,rfl⟩))
 ·exact(A6 (λs' h=>by rcases h with rfl|rfl<;>exact⟨rfl,rfl⟩))
def dt.Core.kr {b b':dt} {Q:List (List Nat)} {h:Int} (c:b.Core Q h) (e1:b'.a=b.a) (e2:b'.fv=b.fv) (e3:b'.ff=b.ff) (e4:b'.at_=b.at_) (e5:b'.spare=b.spare):b'.Core Q h/\b'.flat Q=b.flat Q:=by
 have er:∀s,b'.eg s=b.eg s:=λs=>by rw[dt.eg,dt.eg,e2,e3]
 have eo:∀s r,b'.iv Q s r=b.iv Q s r:=λs r=>by rw[dt.iv,dt.iv,e1]
 have es:∀s,b'.iy Q s=b.iy Q s:=λs=>by rw[dt.iy,dt.iy,er];exact xK λr _=>eo s r
 have ep:∀s,b'.nh Q s=b.nh Q s:=λs=>by rw[dt.nh,dt.nh,er,e1]
 have ef:b'.flat Q=b.flat Q:=by rw[dt.flat,dt.flat,es,es]
 have eq:b'.qs=b.qs:=by rw[dt.qs,dt.qs,e2,e3,e5]
 exact⟨⟨by rw[e1];exact c.wf,λs hs=>by rw[er];exact c.uo s hs,by rw[eq];exact c.vf,by rw[eq];exact c.nd,by rw[eq];exact c.ql,λs hs=>by rw[er];exact c.ne s hs,by rw[e5];exact c.sp,by rw[e4,ep,ep];exact c.at_,by rw[ef];exact c.ids,c.qb⟩,ef⟩
def dt.fy.qi {b:dt} {L:List zE} (h:b.fy L) {s:Int} (hs:s=1\/s=2) {id p q:Int} (vi:id∉L.map (·.id)) (hl:L.length<250) (hq:1<=q/\q<=1000000):(b.qi s id p q).fy (Cf L s id p q):=by
 obtain⟨Q,c,ht,rfl⟩:=h;have P6:=c.leads hs p;have h1:(b.rp id s p).Core Q (-1)/\(b.rp id s p).flat Q=(if fG (b.flat Q) s p=ar then Bo (b.flat Q) s else b.flat Q):=by
  rw[dt.rp,P6];split
  ·obtain⟨e1,e2,e3,e4,e5,_⟩:=z2a b id hs;obtain⟨u1,u2⟩:=c.iZ s;obtain⟨v1,v2⟩:=dt.Core.kr (b':=b.jl id s) (c.flag u1 u2) e1 e2 e3 e4 e5;exact⟨v1,v2.trans (c.CK ht hs)⟩
  ·exact⟨c,rfl⟩
 obtain⟨c1,f1⟩:=h1;have Kc:((b.rp id s p).flat Q).length<250:=by
  rw[f1];split
  ·rw[Bo,iz];exact hl
  ·exact hl
 have aaO:id∉((b.rp id s p).flat Q).map (·.id):=by
  rw[f1];split
  ·rw[yDn];exact vi
  ·exact vi
 obtain⟨Q',R1,R2,Fl⟩:=c1.queue Kc hs p;obtain⟨Q3,A,B,k1,k2,k3,k4,k5⟩:=Fl.put hs (b.leads s p) aaO (c1.used Kc) hq;have Lo:A++B=(if fG (b.flat Q) s p=ar then Bo (b.flat Q) s else b.flat Q):=by rw[<- k2,Fl.flat,f1]
 have BB:Cf (b.flat Q) s id p q=A++⟨id,s,p,q,b.leads s p⟩::B:=by
  rw[Cf];obtain⟨t1,t2⟩:=yJg k4 k5;rw[<- Lo,t1,t2,P6]
 refine⟨Q3,k1,?_,?_⟩
 ·rw[BB,P6];show dt.BF {((b.rp id s p).gr s p).1 with a:=_,at_:=_} _;have ur:∀x,({((b.rp id s p).gr s p).1 with a:=(((b.rp id s p).gr s p).1.a.push ((b.rp id s p).gr s p).2 id q (b.leads s p)).1,at_:=lG id ⟨s,p,(((b.rp id s p).gr s p).1.a.push ((b.rp id s p).gr s p).2 id q (b.leads s p)).2.1⟩ ((b.rp id s p).gr s p).1.at_}:dt).nn x=(b.rp id s p).nn x/\({((b.rp id s p).gr s p).1 with a:=(((b.rp id s p).gr s p).1.a.push ((b.rp id s p).gr s p).2 id q (b.leads s p)).1,at_:=lG id ⟨s,p,(((b.rp id s p).gr s p).1.a.push ((b.rp id s p).gr s p).2 id q (b.leads s p)).2.1⟩ ((b.rp id s p).gr s p).1.at_}:dt).jd x=(b.rp id s p).jd x:=Fl.dq;generalize ({((b.rp id s p).gr s p).1 with a:=(((b.rp id s p).gr s p).1.a.push ((b.rp id s p).gr s p).2 id q (b.leads s p)).1,at_:=lG id ⟨s,p,(((b.rp id s p).gr s p).1.a.push ((b.rp id s p).gr s p).2 id q (b.leads s p)).2.1⟩ ((b.rp id s p).gr s p).1.at_}:dt)=B3 at*;have PE:∀o,o∈A++⟨id,s,p,q,fG (b.flat Q) s p⟩::B↔o=⟨id,s,p,q,fG (b.flat Q) s p⟩\/o∈A++B:=by
   intro o;rw[qq,ku,qq];constructor
   ·rintro(h|h|h)
    ·exact .inr (.inl h)
    ·exact .inl h
    ·exact .inr (.inr h)
   ·rintro(h|h|h)
    ·exact .inr (.inl h)
    ·exact .inl h
    ·exact .inr (.inr h)
  have yt:∀o∈b.flat Q,o.side=1\/o.side=2:=λo ho=>(rY ho).1
  by_cases Ar:fG (b.flat Q) s p=ar
  ·rw[fk Ar]at Lo;have qu:b.rp id s p=b.jl id s:=by rw[dt.rp,fk (P6.trans Ar)]
   obtain⟨_,_,_,_,_,e6⟩:=z2a b id hs;rw[qu]at ur;refine⟨λo ho=> ?_,λs' iR hh=> ?_⟩
   ·rcases(PE o).1 ho with rfl|ho
    ·rw[(ur s).1,(ur s).2,(e6 s hs).1,(e6 s hs).2,fk rfl,fk rfl,Ar];simp
    ·rw[Lo]at ho;obtain⟨o',ln,i1,i2,_,_,i5⟩:=yAr ho;rw[(ur _).1,(ur _).2,i5,(e6 o.side (by rw[i2];exact yt o' ln)).1,(e6 o.side (by rw[i2];exact yt o' ln)).2];by_cases e:o.side=s
     ·rw[fk e,fk e,fk e,qj];symm;refine jq λe2=>vi ?_
      rw[<- e2,i1];exact pn ln
     ·rw[dx e,dx e,dx e,ht.fl o' ln,i1,i2]
   ·rw[(ur s').2,(e6 s' iR).2];by_cases e:s'=s
    ·rw[fk e];exact⟨_,(PE _).2 (.inl rfl),e.symm,rfl⟩
    ·rw[(ur s').1,(e6 s' iR).1,dx e]at hh;rw[dx e];obtain⟨o,ho,o1,o2⟩:=ht.th s' iR hh;exact⟨o,(PE _).2 (.inr (by rw[Lo];exact yUc ho (by rw[o1];exact e))),o1,o2⟩
  ·rw[dx Ar]at Lo;have NK:fG (b.flat Q) s p=au:=by simpa using Ar
   have qu:b.rp id s p=b:=by rw[dt.rp,dx (by rw[P6];exact Ar)]
   rw[qu]at ur;refine⟨λo ho=> ?_,λs' iR hh=> ?_⟩
   ·rw[(ur _).1,(ur _).2];rcases(PE o).1 ho with rfl|ho
    ·show fG (b.flat Q) s p=(b.nn s && decide (id=b.jd s));rw[NK];cases hh:b.nn s with
     |false=>rfl
     |true=>
      rw[qj];symm;refine jq λe2=>vi ?_
      obtain⟨o,ho,_,o2⟩:=ht.th s hs hh;rw[e2,<- o2];exact pn ho
    ·rw[Lo]at ho;exact ht.fl o ho
   ·rw[(ur s').1]at hh;rw[(ur s').2];obtain⟨o,ho,o1,o2⟩:=ht.th s' iR hh;exact⟨o,(PE _).2 (.inr (by rw[Lo];exact ho)),o1,o2⟩
 ·rw[BB];exact k3.symm
def dt.fy.lp {b:dt} {L:List zE} (h:b.fy L) (id:Int):(lp b.at_ id).isSome=kW L id:=by
 obtain⟨Q,c,ht,rfl⟩:=h;cases hg:Sx.lp b.at_ id with
 |none=>
  have:=Zd hg;rw[c.Aq.mem_iff,<- iG]at this;symm;simpa using this
 |some x=>
  have:=pn (f:=(·.1)) (OP hg)
  rw[c.Aq.mem_iff,<- iG]at this;symm;exact this
def dt.fy.len {b:dt} {L:List zE} (h:b.fy L):b.at_.length=L.length:=by
 obtain⟨Q,c,ht,rfl⟩:=h;exact c.len
def dt.fy.add {b:dt} {L:List zE} (h:b.fy L) {s:Int} (hs:s=1\/s=2) (id p q:Int):(b.iJ s id p q).1.fy (lS L s id p q).1/\(b.iJ s id p q).2=(lS L s id p q).2:=by
 rw[dt.iJ,lS,h.lp,h.len]
 repeat' split
 all_goals first|exact⟨h,rfl⟩|skip
 rename_i c1 c2 c3;exact⟨h.qi hs (λe=>c2 (iG.2 e)) oM oM,rfl⟩
def yGl:ou.fy []:=by
 refine⟨[],⟨⟨⟨by simp[ou,N9],rfl,λn l h=>by simp at h,λn l h=>by simp at h,λn l h=>by simp at h,λk s hk hu=> ?_,?_⟩,λn l h=>by simp at h⟩,λs hs=> ?_,λq hq=>by simp[ou,dt.qs]at hq,by simp[ou,dt.qs],rfl,λs hs r hr=> ?_,λq hq=>by simp[ou]at hq,?_,?_,Z8⟩,⟨λo ho=>(by cases ho),λs hs hh=> ?_⟩,?_⟩
 ·have:=mc hk;rw[K2 this]at hu;cases hu
 ·decide
 ·rcases hs with rfl|rfl<;>exact List.Pairwise.nil
 ·rcases hs with rfl|rfl<;>cases hr
 ·exact List.Perm.refl _
 ·exact ak
 ·rcases hs with rfl|rfl<;>cases hh
 ·rfl
structure EO where
 b:dt
 s:Int
 r:xV
 l:List Nat
def EO.oI (i:EO):List zE:=(i.b.a.gn i.l).map λe=>⟨e.id,i.s,i.r.dp,e.dq,e.top⟩
def Dy:gx:=gh EO (λi=>[.nm 0 0,zB i.s,.agg [zB i.r.dp,zB i.r.queue]]) (λi=>[yE i.b]) (λi=>i.b.a.qp i.r.queue i.l) (λ_=> .own 1) (λi=>[yE i.b,.own 258 5 (i.oI.map uA)])
def yVf (i:EO):List ib:=[{ι:=Nat,dv:=λj=>[(7,.own 0),(18,zB j)],rows:=λj=>[.own 258 5 ((i.oI.take j).map uA)]}]
def dK (a:Lz):=(aa Ej (a.a.gn a.l))
def yEx (i:EO):Prop:=
 ∃(a:Lz),a.n=i.r.queue/\av dw 3 zG a.a=av dw 3 zG i.b.a/\a.a.qp a.n a.l/\fp (∃(c:Nat),(↑c:Int)=0/\aa uA (ac c i.oI)=[]/\∃(d:Nat->Prop),∃(e:Nat->Nat),d c/\∀(f:Nat),d f->du (decide ((↑f:Int)<(↑(dK a).length:Int))) ((0<=(↑f:Int)/\(↑f:Int)<(↑(dK a).length:Int))/\∃(g:Int),∃(h:Int),∃(j:Int),∃(k:Bool),zF (dK a) (↑f:Int).toNat 0 4=ba [dI g,dI h,dI j,D.v (.bool k)]/\((aa uA (ac f i.oI)).length+1)*(40:Nat)<=(140737488355328:Nat)/\∃(l:Nat),(↑l:Int)=bu.wrap ((↑f:Int)+1)/\aa uA (ac l i.oI)=aa uA (ac f i.oI)++[[dI h,dI i.s,dI i.r.dp,dI j,D.v (.bool k)]]/\d l/\e l<e f/\dm (av dw 3 zG a.a)/\dm (ax 312 4 (dK a))/\dm (aw [V.d (dI i.r.dp),V.d (dI i.r.queue)] 276)/\dm (aw [V.nm 1 0,V.own 2,V.own 3,V.mp 4,V.d (dI i.b.iN),V.d (dI i.b.iM),V.own 5,V.d (D.v (.bool i.b.gp)),V.d (D.v (.bool i.b.gj))] (273:cg))/\QE i.b (dm (ax 3 1 (iE i.b.spare)))) (ez (QQ i.b (av dw 3 zG i.b.a=av dw 3 zG a.a/\QF i.b (aa uA i.oI=aa uA (ac f i.oI)/\True)))))
def xAo {l:List D5} {k:Nat} {e:D5} (h:l[k]? =ba e):zF (l.map Ej) k 0 4=ba [D.v (.int .i64 e.slot),.v (.int .i64 e.id),.v (.int .i64 e.dq),.v (.bool e.top)]:=kf h (by simp[Ej]) rfl
def yUj (i:EO) (h:Dy.du i):yEx i:=by
 have h:i.b.a.qp i.r.queue i.l:=h;have hl:=h.len;have hen:(i.b.a.gn i.l).length=i.l.length:=by simp[dw.gn]
 have vh:i.oI.length=i.l.length:=by simp[EO.oI,dw.gn]
 unfold yEx QE QF QQ fp ez dK dI;refine⟨⟨i.b.a,i.r.queue,i.l⟩,rfl,rfl,h,λ_ _=> ?_⟩;simp only[iz];refine⟨0,rfl,rfl,λj=>j<=i.l.length,λj=>i.l.length-j,oQ _,λj hj=>zI (λc=> ?_) (λc=> ?_)⟩
 ·obtain⟨e,he⟩:=z6 (l:=i.b.a.gn i.l) (i:=j) oM;have ho:i.oI[j]? =ba ⟨e.id,i.s,i.r.dp,e.dq,e.top⟩:=by rw[EO.oI,uz,he];rfl
  refine⟨⟨oM,oM⟩,e.slot,e.id,e.dq,e.top,xAo he,by rw[oK];omega,j+1,um oM,?_,oM,Z9,ic⟩;rw[tv,ho];simp[uA]
 ·have Fq:j=i.l.length:=by omega
  subst Fq;rw[oV (l:=i.oI) (by omega)]
  exact kp
def zVe:Dy.ok Tryz.prog 247:=ix mixed (dz yKs fx) 0 (λ_=>[]) (λi=>yVf i) [0] Tryz.func247 yUj
open Go Go.RowKit Cv
def z2v {P:ce} {tS rt e sz oO:Nat} {z:Array bv} (hi:gD P tS=ba (e,sz,oO,z)) {w:cd} {g i c n k:Nat} {A:Option ci} {cur src:List bv} {T:cg}
 (hg:w.heap[g]? =ba (.cells cur.toArray T (0,0))) (hs:(bg sz n (.slice A n k)).run P w= .ok src.toArray w) (hl:src.length=n*sz) (rh:i+n<=c) (FG:i*sz+n*sz<=cur.length) (D':∀v∈src,v.oz=ar):
 fS P (bo #[tS,tS] rt #[.slice (ba ⟨g,0,bc⟩) i c,.slice A n k]) w (.slice (ba ⟨g,0,bc⟩) (i+n) c) (World.ja w g (.cells (lj cur (i*sz) src).toArray T (0,0))):=by
 obtain⟨inf,zv,q1,q2,rfl,rfl,q5,rfl⟩:=jF hi;have jy:=vA (P:=P) src 0 (i*inf.size) cur w hg oM D';simp only[E8]at jy;have WM:∀w,(Builtin.lenOf (.slice A n k)).run P w= .ok n w:=λw=>rfl
 unfold fS bo;simp only[A4,CX,A5,bind,pure,run_bind,Sem.bind,Sem.run,Cv.run_underlying q1,Cv.run_sizeOf q2,nr,if_false,hs,WM,rh,if_true,uX,oC,jy,Je]
def z8y {P:ce} {tS ty e sz oO:Nat} {z:Array bv} (hi:gD P tS=ba (e,sz,oO,z)) (hz:z.size=sz) (h1:∀v∈z.toList,v.oz=ar) {w:cd} {g o n c:Nat} {cur:List bv} {T:cg} (hn:0<n)
 (hg:w.heap[g]? =ba (.cells cur.toArray T (0,0))) (FG:o+n*sz<=cur.length):
 fS P (Builtin.clear_ #[tS] ty #[.slice (ba ⟨g,o,bc⟩) n c]) w (.tuple #[]) (World.ja w g (.cells (lj cur o (be z n).toList).toArray T (0,0))):=by
 obtain⟨inf,zv,q1,q2,rfl,rfl,q5,rfl⟩:=jF hi;have hlz:(be zv.cells n).toList.length=n*inf.size:=by rw[Jo,cf,hz]
 have jy:=vA (P:=P) (be zv.cells n).toList 0 o cur w hg oM (by
  intro v hv;obtain⟨i,hi,rfl⟩:=List.getElem_of_mem hv;simp only[be,Array.getElem_toList,Array.getElem_map,Array.getElem_range];have Ad:0<zv.cells.size:=by
   rcases Nat.eq_zero_or_pos zv.cells.size with h0|h0
   ·rw[hlz,<- hz,h0]at hi;omega
   ·exact h0
  have iq:i % zv.cells.size<zv.cells.size:=Nat.mod_lt _ Ad;rw[getElem!_pos zv.cells (i % zv.cells.size) iq];exact h1 _ (by simp))
 simp only[E8]at jy;have EA:∀w,(zeroValue e).run P w= .ok zv w:=λw=>mq (by unfold zero?;rw[q2];exact q5) w
 obtain⟨m,rfl⟩:∃m,n=m+1:=⟨n-1,oM⟩
 unfold fS Builtin.clear_;simp only[A4,CX,A5,bind,pure,run_bind,Sem.bind,Sem.run,Cv.run_underlying q1,EA,jy]
def y3i (P:ce) (tS sz:Nat) (s:Option ci) (sn sk:Nat) (i j:Int) (w:cd) (R:Ending->cd->Prop):Prop:=
y2z s sk i j (sn:Int) sz λa1 na1 ka1=>
du ((i:Int)==j) (
R (.returned (.slice s sn sk)) w) (
VY w λw2=>
uq s sn sk bc (ba i) sz λa3 na3 ka3=>
uq s sn sk (ba j) bc sz λa4 na4 ka4=>
∃(a5:Option ci) (HF Js:Nat),∃w6:cd,fS P (bo #[tS,tS] tS #[.slice a3 na3 ka3,.slice a4 na4 ka4]) w2 (.slice a5 HF Js) w6/\
uq a5 HF Js (ba (HF:Int)) (ba (sn:Int)) sz λa7 na7 ka7=>
∃w8:cd,fS P (Builtin.clear_ #[tS] 0 #[.slice a7 na7 ka7]) w6 (.tuple #[]) w8/\
R (.returned (.slice a5 HF Js)) w8)
def xCf {P:ce} {tS e sz oO:Nat} {z:Array bv} (hi:gD P tS=ba (e,sz,oO,z)) (hz:z.size=sz) (K8:∀v∈z.toList,v.oz=ar)
 {k:Ko} {w:cd} {L:List HP} {s:Option ci} {sn sk i j:Nat} {xs:List bv} (H:Hp k w (oA e sz s sn sk xs::L)) (h1:∀u∈xs,u.oz=ar) (NN:i<j) (hj:j<=sn):
 y3i P tS sz s sn sk i j w λen w'=>∃a kk,en= .returned (.slice a (sn-(j-i)) kk)/\Hp k w' (oA e sz a (sn-(j-i)) kk (xs.take (i*sz)++xs.drop (j*sz))::L):=by
 obtain⟨Cm,HR⟩:=H.len;rcases H.oP with⟨_,e0,_⟩|⟨b,r,rfl,g1,g2,g3,H0⟩
 ·omega
 have hle:i*sz<=xs.length:=by rw[Cm];exact yh _ oM
 have aaL:j*sz<=xs.length:=by rw[Cm];exact yh _ hj
 have Lk:(xs.drop (j*sz)).length=(sn-j)*sz:=by rw[qc,Cm,Nat.sub_mul]
 have sx:i*sz+(sn-j)*sz=(sn-(j-i))*sz:=by rw[<- Aj];congr 1;omega
 have J8:i*sz+(sn-j)*sz+(j-i)*sz=sn*sz:=by rw[<- Aj,<- Aj];congr 1;omega
 have aa7:j*sz+(sn-j)*sz=sn*sz:=by rw[<- Aj];congr 1;omega
 have hlen:(xs++r).length=xs.length+r.length:=iQ;unfold y3i;simp only[y2z,uq,ml];refine⟨⟨oM,oM,oM,oM⟩,Cv.du.mk (λc=>absurd c (by simp;omega)) λ_=> ?_⟩;rintro _ rfl;have H1:=H0.drew;have D9:(bg sz (sn-j) (.slice (if sk=j then ba ⟨b,0,bc⟩else(ba ⟨b,0,bc⟩:Option ci).map (·.add (j*sz))) (sn-j) (sk-j))).run P w.drew= .ok (xs.drop (j*sz)).toArray w.drew:=by
  by_cases h0:(sn-j)*sz=0
  ·have:xs.drop (j*sz)=[]:=zm oM;rw[this];by_cases hk:sk=j
   ·rw[fk hk];unfold bg;rw[h0];rfl
   ·rw[dx hk,ym,uX];unfold bg;rw[h0];rfl
  ·have hk:sk≠j:=by rintro rfl;have:sn-sk=0:=by omega
                    rw[this]at h0;simp at h0
   rw[dx hk,ym,uX];unfold bg;rw[fM H1.get (by rw[hlen];omega)];rw[oC,GZ aaL,zq (by omega),oV (by omega)]
 refine⟨⟨oM,oM⟩,⟨oM,oM,HR⟩,_,_,_,_,z2v (i:=i) (c:=sk) hi H1.get D9 Lk oM (by rw[hlen];omega) (λv hv=>h1 v (Jp hv)),⟨oM,oM,oM⟩,?_⟩;have H2:=H1.oc (.cells (lj (xs++r) (i*sz) (xs.drop (j*sz))).toArray e);have e1:i+(sn-j)=sn-(j-i):=by omega
 rw[dx (show sk≠i+(sn-j)by omega),ym,uX,oC,e1];have Sq:lj (xs++r) (i*sz) (xs.drop (j*sz))=(xs.take (i*sz)++xs.drop (j*sz))++(xs++r).drop ((sn-(j-i))*sz):=by
  simp only[lj];rw[zq hle,Lk,sx]
 rw[Sq]at H2;have hA:(xs.take (i*sz)++xs.drop (j*sz)).length=(sn-(j-i))*sz:=by
  rw[iQ,oK,Lk];omega
 have hB:((xs++r).drop ((sn-(j-i))*sz)).length=(j-i)*sz+r.length:=by
  rw[qc,hlen];omega
 rw[Sq];have hn:sn-(sn-(j-i))=j-i:=by omega
 rw[hn];refine⟨_,z8y hi hz K8 oM H2.get (by rw[iQ,hA,hB];omega),_,_,rfl,?_⟩;have H3:=H2.oc (.cells (lj (xs.take (i*sz)++xs.drop (j*sz)++(xs++r).drop ((sn-(j-i))*sz)) ((sn-(j-i))*sz) (be z (j-i)).toList).toArray e);have es:=z0s (xs.take (i*sz)++xs.drop (j*sz)) ((xs++r).drop ((sn-(j-i))*sz)) (be z (j-i)).toList;rw[hA]at es;rw[es]at H3;rw[es];rw[km (xs.take (i*sz)++xs.drop (j*sz))]at H3 ⊢;have C2:(be z (j-i)).toList.length=(j-i)*sz:=by rw[Jo,cf,hz]
 refine H3.AM hA ?_ oM;rw[iQ,hA,iQ,C2,qc,hB,<- g2,hlen,Cm];omega
structure y1b where
 fh:List (List D)
 i:Nat
 j:Nat
def y4u (e sz:Nat):gx where
 ι:=y1b
 pat:=λi=>[.own 0,.d (.v (.int .i64 i.i)),.d (.v (.int .i64 i.j))]
 pre:=λi=>[.own e sz i.fh]
 du:=λi=>i.i<i.j/\i.j<=i.fh.length
 alts:=λi=>[{o:=Unit,res:=λ_=> .own 1,post:=λ_=>[.gone,.own e sz (i.fh.take i.i++i.fh.drop i.j)],rel:=λ_=>True}]
def IG {P:ce} (hm:P.follows .mixedOrders=ar) {tS e sz oO fI:Nat} {z:Array bv} {fn:Func} {c:Code} (hf:P.funcs[fI]? =ba fn) (hb:fn.body=ba c) (B6:gF P fI=ar) (pg:yi fn.ntmps c=ar) (Li:okF [] c=ar) (LC:Nat.ble 3 fn.ntmps=ar)
 (hi:gD P tS=ba (e,sz,oO,z)) (hz:z.size=sz) (K8:∀v∈z.toList,v.oz=ar)
 (heq:∀(s:Option ci) (sn sk:Nat) (i j:Int) (w:cd) (R:Ending->cd->Prop),y3i P tS sz s sn sk i j w R=EI P [] c (TB P fn R) (gG [.slice s sn sk,.int .i64 i,.int .i64 j]) w):
 (y4u e sz).ok P fI:=by
 intro i hc k L E w ys R hv;obtain⟨c1,c2⟩:i.i<i.j/\i.j<=i.fh.length:=hc;simp only[y4u,im,VR,DR]at hv;obtain⟨y0,_,rfl,⟨l0,e0,_⟩,y1,_,rfl,⟨rfl,_⟩,y2,_,rfl,⟨rfl,_⟩,rfl⟩:=hv;obtain⟨s,sk,xs,aaa,g1,we,hu,H⟩:=R.tz (n:=0) (t:=e) (sz:=sz) (fh:=i.fh) rfl;rw[e0]at g1;cases g1;have H2:Hp k w (oA e sz s i.fh.length sk xs::fz E.F::L):=H;have hv:=xCf hi hz K8 H2 we.one c1 c2;have xq:=zNa (args:=[.slice s i.fh.length sk,.int .i64 i.i,.int .i64 i.j]) hm hf hb [] pg Li LC (heq s i.fh.length sk i.i i.j w _) hv;refine nO B6 (xq.mono ?_);rintro en w' ⟨a,kk,rfl,H3⟩;have hl:(i.fh.take i.i++i.fh.drop i.j).length=i.fh.length-(i.j-i.i):=by
  rw[iQ,oK,qc];omega
 have H4:Hp k w' (oA e sz a (i.fh.take i.i++i.fh.drop i.j).length kk (xs.take (i.i*sz)++xs.drop (i.j*sz))::(([]:List (Nat×fw)).map (iu E)++fz E.F::L)):=by
  rw[hl];exact H3
 obtain⟨E',r1,r2,r3⟩:=aM (nx:=1) R.nx (by
  rw[Nn,<- sG i.i hu,<- sE i.j hu];exact(we.take _).append (we.drop _)) (λx hx=>by
   rcases qq.1 hx with hx|hx
   ·exact hu x (Po hx)
   ·exact hu x (Jp hx)) H4
 rw[hl]at r3;refine⟨_,rfl,_,xj.2 rfl,(),trivial,E',r1,r3,⟨r2.nx,?_⟩⟩;exact((@gV k w' True _).2 ⟨trivial,r2.hp⟩).imp (B:=iu E' (0,.gone)) λx hx=> .inl ⟨rfl,hx.2⟩
def rF (k:Int):List (Int×Place)->List (Int×Place)
 |[]=>[]
 |(a,b)::l=>if k=a then l else(a,b)::rF k l
structure Bt where
 b:dt
 id:Int
 dp:Int
 slot:Int
def dt.ki (b:dt) (s id:Int):dt:=if b.nn s=ar/\b.jd s=id then(if s=1 then{b with gp:=au}else{b with gj:=au})else b
def dt.iP (b:dt) (s id dp:Int):dt:=
 if(b.a.qx ((b.eg s).getD (yA s (b.eg s) dp) ⟨0,0⟩).queue).count=0 then
  ({b.ki s id with at_:=rF id b.at_,spare:=b.spare++[((b.eg s).getD (yA s (b.eg s) dp) ⟨0,0⟩).queue]}:dt).sw s ((b.eg s).take (yA s (b.eg s) dp)++(b.eg s).drop (yA s (b.eg s) dp+1))
 else{b.ki s id with at_:=rF id b.at_}
def yTn (b:dt):fw:= .cells [.nm 1 0,.own 6,.own 7,.mp 4,zB b.iN,zB b.iM,.own 8,y4 b.gp,y4 b.gj] 273
@[reducible] def yYw (b:dt):List fw:=[yTn b,zR b 1,.gone,.gone,zR b 4,.gone,zR b 2,zR b 3,zR b 5]
@[reducible] def Bt.ok (i:Bt) (s:Int):Prop:=i.b.small/\yA s (i.b.eg s) i.dp<(i.b.eg s).length
def yQp (s:Int):gx:=gh Bt (λi=>[.nm 0 0,zB i.id,.agg [zB s,zB i.dp,zB i.slot]]) (λi=>IP i.b) (λi=>i.ok s) (λ_=>EX) (λi=>yYw (i.b.iP s i.id i.dp))
def Gi:gx:=yQp 1
def Gh:gx:=yQp 2
structure DrJ where
 i:Bt
 s:Bool
def Te:gx:=gh DrJ (λj=>[.nm 0 0,zB j.i.id,.agg [zB (zA j.s),zB j.i.dp,zB j.i.slot]]) (λj=>IP j.i.b) (λj=>j.i.ok (zA j.s)) (λ_=>EX) (λj=>yYw (j.i.b.iP (zA j.s) j.i.id j.i.dp))
def Th:gx:=y4u 276 2
def y0s:zE:=⟨0,0,0,0,au⟩
def cT (L:List zE) (id:Int):zE:=(L.find? λo=>decide (o.id=id)).getD y0s
def yU (L:List zE) (id q:Int):List zE:=L.filterMap λo=>if o.id=id then(if o.dq=q then bc else ba {o with dq:=o.dq-q})else ba o
def x4 (L:List zE) (id q:Int):List zE×Int:=if kW L id=au then(L,26)else if q<1\/(cT L id).dq<q then(L,24)else(yU L id q,0)
def qy (L:List zE) (s p:Int):List zE:=L.filter λo=>decide (o.side=s) && decide (o.dp=p)
def qg:List zE->List Lv
 |[]=>[]
 |o::l=>match qg l with
  |[]=>[⟨o.dp,o.dq,1⟩]
  |v::vs=>if v.dp=o.dp then⟨v.dp,o.dq+v.dq,v.count+1⟩::vs else⟨o.dp,o.dq,1⟩::v::vs
def x7 (L:List zE) (s:Int):List Lv:=qg (L.filter λo=>decide (o.side=s))
def gm (L:List zE) (s:Int):Lv×Bool:=match x7 L s with
 |[]=>(⟨0,0,0⟩,au)
 |v::_=>(v,ar)
structure Ic where
 b:dt
 L:List zE
structure Cr where
 b:dt
 L:List zE
 id:Int
 dq:Int
structure Ig where
 b:dt
 L:List zE
 s:Bool
 dp:Int
def Kg:gx where
 ι:=Cr
 pat:=λi=>[.nm 0 0,zB i.id,zB i.dq]
 pre:=λi=>[yE i.b]
 du:=λi=>i.b.fy i.L
 alts:=λi=>[{o:=dt,res:=λ_=>zB (x4 i.L i.id i.dq).2,post:=λb=>[yE b],rel:=λb=>b.fy (x4 i.L i.id i.dq).1}]
def Gn:gx:=gh Cr (λi=>[.nm 0 0,zB i.id]) (λi=>[yE i.b]) (λi=>i.b.fy i.L) (λi=> .jm [Nc (cT i.L i.id),y4 (kW i.L i.id)]) (λi=>[yE i.b])
def y7x (s:Bool):gx:=gh Ig (λi=>[.nm 0 0,zB (zA s),zB i.dp]) (λi=>[yE i.b]) (λi=>i.b.fy i.L) (λ_=> .own 1) (λi=>[yE i.b,.own 258 5 ((qy i.L (zA s) i.dp).map uA)])
def Sw:gx:=y7x au
def Sv:gx:=y7x ar
def atC:gx:=gh Ig (λi=>[.nm 0 0,zB (zA i.s),zB i.dp]) (λi=>[yE i.b]) (λi=>i.b.fy i.L) (λ_=> .own 1) (λi=>[yE i.b,.own 258 5 ((qy i.L (zA i.s) i.dp).map uA)])
def xG (a:Bt):=(a.b.iP 1 a.id a.dp)
@[reducible] def QR (a:oU)(b:Bt)(R:Prop):Prop:=av dw 3 zG a.b.a=zR b.b 1/\aa zC a.b.fv=aa zC b.b.fv/\aa zC a.b.ff=aa zC b.b.ff/\jv a.b.at_=rC (cm bu b.id) (jv b.b.at_)/\iE a.b.spare=iE b.b.spare/\(qN a)/\R
@[reducible] def Hh (a:vm)(b:Int)(c:dt)(R:Prop):Prop:=a.n=b/\av dw 3 zG a.a=av dw 3 zG c.a/\R
@[reducible] def Qb4 (a:Bt)(b:dt)(c:vm)(R:Prop):Prop:=(xG a).iN=b.iN/\(xG a).iM=b.iM/\(xG a).gp=b.gp/\(xG a).gj=b.gj/\av dw 3 zG (xG a).a=av dw 3 zG c.a/\jv (xG a).at_=jv b.at_/\R
def ZC (a:oU) (b:Bt):Prop:=a.b.gj=b.b.gj/\QR a b (fp ((dS a)/\∃(d:Int),zF (aa zC a.b.fv) (qA a).toNat 1 1=ba [dI d]/\∃(e:vm),Hh e d a.b (True/\fp (du ((e.a.qx e.n).count==0) (((iE a.b.spare).length+1)*(8:Nat)<=(140737488355328:Nat)/\∃(g:y1b),(↑g.i:Int)=(qA a)/\(↑g.j:Int)=bu.wrap ((qA a)+1)/\g.fh=aa zC a.b.fv/\(g.i<g.j/\g.j<=g.fh.length)/\fp (dm ((1:Int))/\ez (Qb4 b a.b e (aa zC (xG b).fv=ac g.i g.fh++aq g.j g.fh/\aa zC (xG b).ff=aa zC a.b.ff/\iE (xG b).spare=iE a.b.spare++[[dI d]]/\True)))) (ez (Qb4 b a.b e (aa zC (xG b).fv=aa zC a.b.fv/\aa zC (xG b).ff=aa zC a.b.ff/\iE (xG b).spare=iE a.b.spare/\True)))))))
@[reducible] def QO (a b:dt)(R:Prop):Prop:=a.iN=b.iN/\a.iM=b.iM/\a.gp=b.gp/\R
def Y7 (a:Bt):Prop:=∃(b:oU),dm ((1:Int))/\b.dp=a.dp/\QO b.b a.b (ZC b a)
def yJm (i:Bt):Prop:=
 (∀(a:bv×List D),a∈jv i.b.at_->kr (cm bu i.id) a.fst=ar)/\du i.b.gp (du (i.b.iN==i.id) (∃(a:oU),dm ((1:Int))/\a.dp=i.dp/\a.b.iN=i.b.iN/\a.b.iM=i.b.iM/\a.b.gp=au/\ZC a i) (Y7 i)) (Y7 i)
def xH (a:Bt):=(a.b.iP 2 a.id a.dp)
@[reducible] def QT (a:Bt)(b:dt)(c:vm)(R:Prop):Prop:=(xH a).iN=b.iN/\(xH a).iM=b.iM/\(xH a).gp=b.gp/\(xH a).gj=b.gj/\av dw 3 zG (xH a).a=av dw 3 zG c.a/\jv (xH a).at_=jv b.at_/\aa zC (xH a).fv=aa zC b.fv/\R
def Zt (a:oU) (b:Bt):Prop:=QR a b (fp ((dR a)/\∃(d:Int),zF (aa zC a.b.ff) (x9 a).toNat 1 1=ba [dI d]/\∃(e:vm),Hh e d a.b (True/\fp (du ((e.a.qx e.n).count==0) (((iE a.b.spare).length+1)*(8:Nat)<=(140737488355328:Nat)/\∃(g:y1b),(↑g.i:Int)=(x9 a)/\(↑g.j:Int)=bu.wrap ((x9 a)+1)/\g.fh=aa zC a.b.ff/\(g.i<g.j/\g.j<=g.fh.length)/\fp (dm ((2:Int))/\ez (QT b a.b e (aa zC (xH b).ff=ac g.i g.fh++aq g.j g.fh/\iE (xH b).spare=iE a.b.spare++[[dI d]]/\True)))) (ez (QT b a.b e (aa zC (xH b).ff=aa zC a.b.ff/\iE (xH b).spare=iE a.b.spare/\True)))))))
def Zp (a:Bt):Prop:=∃(b:oU),dm ((2:Int))/\b.dp=a.dp/\QO b.b a.b (b.b.gj=a.b.gj/\Zt b a)
def yQy (i:Bt):Prop:=
 (∀(a:bv×List D),a∈jv i.b.at_->kr (cm bu i.id) a.fst=ar)/\du i.b.gj (du (i.b.iM==i.id) (∃(a:oU),dm ((2:Int))/\a.dp=i.dp/\QO a.b i.b (a.b.gj=au/\Zt a i)) (Zp i)) (Zp i)
def zFa (a:Cr):Prop:=QF a.b (True)
def YH (a:Int) (b:Cr) (c:Int) (d:Int):Prop:=∃(e:vm),Hh e a b.b (e.a.dv.length<=1000000/\fp (ez ((cT b.L b.id).id=b.id/\(cT b.L b.id).side=c/\(cT b.L b.id).dp=d/\(cT b.L b.id).dq=(e.a.og e.n).fst.dq/\(cT b.L b.id).top=(e.a.og e.n).fst.top/\kW b.L b.id=ar/\QQ b.b (av dw 3 zG b.b.a=av dw 3 zG e.a/\zFa b))))
def tR (a:Cr) (b:Int) (c:Int) (d:Int) (e:Bool):Prop:=kH (cm bu a.id) (jv a.b.at_)=ba [dI b,dI c,dI d]/\e=ar\/kH (cm bu a.id) (jv a.b.at_)=bc/\[dI b,dI c,dI d]=[dI 0,dI 0,dI 0]/\e=au
def yNk (i:Cr):Prop:=
 (∀(a:bv×List D),a∈jv i.b.at_->kr (cm bu i.id) a.fst=ar)/\∃(a:Bool),∃(b:Int),∃(c:Int),∃(d:Int),(tR i b c d a)/\du (!a) (ez ((cT i.L i.id).id=0/\(cT i.L i.id).side=0/\(cT i.L i.id).dp=0/\(cT i.L i.id).dq=0/\(cT i.L i.id).top=au/\kW i.L i.id=au/\QQ i.b (dm (av dw 3 zG i.b.a)/\zFa i))) ((YH d i b c)/\d=d/\True/\YH d i b c)
def U4 (a:dt) (b:Cr):Prop:=QG a b.b (a.fy (x4 b.L b.id b.dq).fst)
def uE (a:DrJ):=(a.i.b.iP (zA a.s) a.i.id a.i.dp)
def Yd (a:Cr) (b:Int) (c:Int) (d:Int) (e:vm):Prop:=∃(f:DrJ),f.i.id=a.id/\zA f.s=b/\f.i.dp=c/\f.i.slot=d/\QO f.i.b a.b (f.i.b.gj=a.b.gj/\av dw 3 zG f.i.b.a=av dw 3 zG e.a/\QG f.i.b a.b (((QL f.i.b.a f.i.b (f.i.b.spare.length<=1000000))/\yA (zA f.s) (f.i.b.eg (zA f.s)) f.i.dp<(f.i.b.eg (zA f.s)).length)/\fp (∃(h:dt),(x4 a.L a.id a.dq).snd=0/\h.iN=(uE f).iN/\h.iM=(uE f).iM/\h.gp=(uE f).gp/\h.gj=(uE f).gj/\av dw 3 zG h.a=av dw 3 zG (uE f).a/\aa zC h.fv=aa zC (uE f).fv/\aa zC h.ff=aa zC (uE f).ff/\jv h.at_=jv (uE f).at_/\iE h.spare=iE (uE f).spare/\h.fy (x4 a.L a.id a.dq).fst)))
def Xw (a:Int) (b:B7) (c:Cr) (d:Int) (e:Int):Prop:=∃(f:vm),f.n=a/\av dw 3 zG f.a=av dw 3 zG (b.a.gz b.n b.dq).fst/\f.a.dv.length<=1000000/\fp (du (!(f.a.og f.n).snd) (Yd c d e a f) (du ((f.a.og f.n).fst.id !=c.id) (Yd c d e a f) (∃(h:dt),(x4 c.L c.id c.dq).snd=0/\QO h c.b (h.gj=c.b.gj/\av dw 3 zG h.a=av dw 3 zG f.a/\U4 h c))))
def yYu (i:Cr):Prop:=
 (∀(a:bv×List D),a∈jv i.b.at_->kr (cm bu i.id) a.fst=ar)/\∃(a:Bool),∃(b:Int),∃(c:Int),∃(d:Int),(tR i b c d a)/\du (!a) (∃(e:dt),(x4 i.L i.id i.dq).snd=26/\QO e i.b (e.gj=i.b.gj/\av dw 3 zG e.a=av dw 3 zG i.b.a/\U4 e i)) (∃(e:B7),e.n=d/\e.dq=i.dq/\av dw 3 zG e.a=av dw 3 zG i.b.a/\(e.a.dv.length<=1000000/\∀(k:Nat) (s:Slot),e.a.dv[k]?=ba s->s.used=ar->(0<=s.queue/\s.queue<(↑e.a.dy.length:Int))/\s.dq<=1000000/\(s.ahead=(-1)\/0<=s.ahead/\s.ahead<(↑e.a.dv.length:Int)/\s.ahead≠(↑k:Int))/\(s.back=(-1)\/0<=s.back/\s.back<(↑e.a.dv.length:Int)/\s.back≠(↑k:Int)))/\fp (du ((e.a.gz e.n e.dq).snd !=0) (∃(g:dt),(x4 i.L i.id i.dq).snd=(e.a.gz e.n e.dq).snd/\QO g i.b (g.gj=i.b.gj/\av dw 3 zG g.a=av dw 3 zG (e.a.gz e.n e.dq).fst/\U4 g i)) ((Xw d e i b c)/\d=d/\True/\Xw d e i b c)))
@[reducible] def Qg (a:dt)(R:Prop):Prop:=a.iN=a.iN/\a.iM=a.iM/\a.gp=a.gp/\a.gj=a.gj/\av dw 3 zG a.a=av dw 3 zG a.a/\aa zC a.fv=aa zC a.fv/\aa zC a.ff=aa zC a.ff/\jv a.at_=jv a.at_/\iE a.spare=iE a.spare/\R
def y8b (i:Ig):Prop:=
 ∃(a:Int),a=zA au/\True/\fp (du (kQ a) (ez (Qg i.b (aa uA (qy i.L (zA au) i.dp)=[]/\True))) (∃(c:oU),1=zA au/\c.dp=i.dp/\Qf c.b i.b ((qN c)/\fp (du (!jP 1 (c.b.eg 1) c.dp) (ez (Qf i.b c.b (aa uA (qy i.L (zA au) i.dp)=[]/\True))) ((dS c)/\∃(e:Int),∃(f:Int),zF (aa zC c.b.fv) (qA c).toNat 0 2=ba [dI e,dI f]/\∃(g:EO),g.s=zA au/\g.r.dp=e/\g.r.queue=f/\Qf g.b c.b (g.b.a.qp g.r.queue g.l/\fp (ez (yE i.b=yE g.b/\aa uA (qy i.L (zA au) i.dp)=aa uA g.oI/\True))))))))
def y6c (i:Ig):Prop:=
 ∃(a:Int),a=zA ar/\True/\fp (du (kQ a) (ez (Qg i.b (aa uA (qy i.L (zA ar) i.dp)=[]/\True))) (∃(c:oU),2=zA ar/\c.dp=i.dp/\Qf c.b i.b ((qN c)/\fp (du (!jP 2 (c.b.eg 2) c.dp) (ez (Qf i.b c.b (aa uA (qy i.L (zA ar) i.dp)=[]/\True))) ((dR c)/\∃(e:Int),∃(f:Int),zF (aa zC c.b.ff) (x9 c).toNat 0 2=ba [dI e,dI f]/\∃(g:EO),g.s=zA ar/\g.r.dp=e/\g.r.queue=f/\Qf g.b c.b (g.b.a.qp g.r.queue g.l/\fp (ez (yE i.b=yE g.b/\aa uA (qy i.L (zA ar) i.dp)=aa uA g.oI/\True))))))))
def gY {L:List zE} (h:(L.map (·.id)).Nodup) {o:zE} (ho:o∈L):cT L o.id=o:=by
 induction L with
 |nil=>cases ho
 |cons x L ih=>
  rw[iT,ve]at h;rw[cT,KR];rcases ku.1 ho with rfl|ho
  ·rw[kx rfl];rfl
  ·have:x.id≠o.id:=λe=>h.1 (e▸pn (f:=(·.id)) ho)
   rw[jq this];exact ih h.2 ho
def u0 {α β:Type} {f g:α->Option β}:∀{l:List α},(∀x∈l,f x=g x)->l.filterMap f=l.filterMap g
 |[],_=>rfl
 |x::l,h=>by rw[Jn,Jn,h x jg,u0 λy hy=>h y (jx _ hy)]
def yZn {L:List zE} {id:Int} (h:kW L id=au):cT L id=y0s:=by
 rw[cT];have:L.find? (λo=>decide (o.id=id))=bc:=by
  rw[ag];intro o ho;rw[kW,KW]at h;exact h o ho
 rw[this];rfl
structure Told (b:dt) (Q:List (List Nat)) (id:Int) (s:Int) (r:xV) (k:Nat):Prop where
 hs:s=1\/s=2
 hr:r∈b.eg s
 hk:k∈xI Q r
 e:lp b.at_ id=ba ⟨s,r.dp,k⟩
 ident:(b.a.fg k).id=id
 get:cT (b.flat Q) id=v7 b.a s r.dp k
 has:kW (b.flat Q) id=ar
def ySn {b:dt} {Q:List (List Nat)} {s:Int} (hs:s=1\/s=2) {r:xV} (hr:r∈b.eg s) {k:Nat} (hk:k∈xI Q r):v7 b.a s r.dp k∈b.flat Q:=
 BV hs (yg.2 ⟨r,hr,pn hk⟩)
def dt.Core.told {b:dt} {Q:List (List Nat)} (c:b.Core Q (-1)) (id:Int):(lp b.at_ id=bc/\kW (b.flat Q) id=au)\/∃s r k,Told b Q id s r k:=by
 cases hg:lp b.at_ id with
 |none=>
  have:=Zd hg;rw[c.Aq.mem_iff,<- iG]at this;exact .inl ⟨rfl,by simpa using this⟩
 |some x=>
  obtain⟨k,r,hs,hr,hk,hx,vi⟩:=c.RU (OP hg);have hm:=ySn hs hr hk;have kj:=gY c.ids hm;have e:(v7 b.a x.side r.dp k).id=id:=vi;rw[e]at kj;exact .inr ⟨x.side,r,k,hs,hr,hk,by rw[hg];exact congrArg ba hx,vi,kj,iG.2 (by rw[<- e];exact pn hm)⟩
def Told.only {b:dt} {Q:List (List Nat)} (c:b.Core Q (-1)) {id s:Int} {r:xV} {k:Nat} (h:Told b Q id s r k) {s':Int} (iR:s'=1\/s'=2) {r':xV} (oB:r'∈b.eg s') {j:Nat} (hj:j∈xI Q r'):(b.a.fg j).id=id↔j=k:=by
 constructor
 ·intro e;have h1:=c.Fe iR oB hj;have h2:=c.Fe h.hs h.hr h.hk;rw[e]at h1;rw[h.ident]at h2;have:=congrArg Place.slot (OJ c.keys h1 h2);dsimp only at this;omega
 ·rintro rfl;exact h.ident
def dt.Core.less {b:dt} {Q:List (List Nat)} (c:b.Core Q (-1)) (ht:b.BF (b.flat Q)) {id s:Int} {r:xV} {k:Nat} (h:Told b Q id s r k) {q:Int} (hq:1<=q/\q<(b.a.fg k).dq):
 (b.a.gz k q).2=0/\({b with a:=(b.a.gz k q).1}:dt).fy (yU (b.flat Q) id q)/\(b.a.gz k q).1.dv.length=250/\(b.a.gz k q).1.og k=((((b.a.gz k q).1.fg k)).qh,ar)/\((b.a.gz k q).1.fg k).id=id:=by
 obtain⟨t1,t2,t3⟩:=c.wf.take (c.get h.hs h.hr) h.hk (q:=q) ⟨hq.1,oM⟩;rw[dx (by omega)]at t3;obtain⟨w,t4,t5⟩:=t3;have Eb:∀j,((b.a.gz k q).1.fg j).qh=if j=k then{(b.a.fg k).qh with dq:=(b.a.fg k).dq-q}else(b.a.fg j).qh:=by
  intro j;split
  ·rename_i e;rw[e,t4];rfl
  ·rename_i e;exact(t2 j e).1
 have vi:∀j,((b.a.gz k q).1.fg j).id=(b.a.fg j).id:=by
  intro j;have:=congrArg D5.id (Eb j);split at this
  ·rename_i e;rw[e]at this ⊢;exact this
  ·exact this
 have tq:({b with a:=(b.a.gz k q).1}:dt).flat Q=yU (b.flat Q) id q:=by
  have side:∀s',s'=1\/s'=2->({b with a:=(b.a.gz k q).1}:dt).iy Q s'=yU (b.iy Q s') id q:=by
   intro s' iR;rw[yU,dt.iy,dt.iy,List.filterMap_flatMap];refine xK λr' oB=> ?_
   rw[dt.iv,dt.iv,List.filterMap_map];have:(xI Q r').filterMap (λj=>ba (v7 (b.a.gz k q).1 s' r'.dp j))=(xI Q r').map (v7 (b.a.gz k q).1 s' r'.dp):=by rw[<- List.filterMap_eq_map];rfl
   refine this.symm.trans (u0 λj hj=> ?_);simp only[cn,v7,yKl,Eb];have WI:=h.only c iR oB hj;by_cases e:j=k
   ·subst e;rw[fk rfl];refine((fk (show(b.a.fg j).qh.id=id from h.ident)).trans (dx λe=> ?_)).symm;have e:(b.a.fg j).dq=q:=e;omega
   ·rw[dx e];exact(dx (λe2=>e (WI.1 e2))).symm
  rw[dt.flat,side 1 (.inl rfl),side 2 (.inr rfl),dt.flat,yU,yU,yU,List.filterMap_append]
 have hu:(b.a.gz k q).1.iB k=ar:=by
  obtain⟨tf,⟨_,_,h2⟩,h3⟩:=w.tozo.mem (c.get h.hs h.hr) h.hk;have iq:=w.len;simp only[dw.iB,ld,sm,ml];exact⟨oM,oM,h2.used⟩
 refine⟨t1,⟨Q,c.flag w vi,⟨λo ho=> ?_,λs' iR hh=> ?_⟩,tq.symm⟩,w.len,by rw[dw.og,fk hu,ml],by rw[vi,h.ident]⟩
 ·obtain⟨o',ln,e⟩:=HB.1 ho;have:=ht.fl o' ln;split at e
  ·split at e
   ·cases e
   ·cases e;exact this
  ·cases e;exact this
 ·obtain⟨o,ho,o1,o2⟩:=ht.th s' iR hh;by_cases e:o.id=id
  ·refine⟨{o with dq:=o.dq-q},HB.2 ⟨o,ho,?_⟩,o1,o2⟩;have hg:=gY c.ids ho;rw[e,h.get]at hg;rw[fk e,dx (λe2=>by
    rw[<- hg]at e2;have:(b.a.fg k).dq=q:=e2;omega)]
  ·exact⟨o,HB.2 ⟨o,ho,dx e⟩,o1,o2⟩
def yAy:∀{l:List (Int×Place)} {k:Int},(l.map (·.1)).Nodup->rF k l=l.filter λx=> !decide (x.1=k)
 |[],k,_=>rfl
 |(a,b)::l,k,h=>by
  rw[iT,ve]at h;rw[rF];by_cases e:k=a
  ·subst e;rw[fk rfl,Jq (by simp)];symm;rw[KY];intro x hx;have:x.1≠k:=λe=>h.1 (e▸pn (f:=(·.1)) hx)
   simp[this]
  ·rw[dx e,Jr (by simp[Ne.symm e]),yAy h.2]
def zGz {l:List Nat} (h:l.Nodup) (k:Nat):l.erase k=l.filter λj=> !decide (j=k):=by
 rw[h.erase_eq_filter];refine aj λj _=> ?_
 simp[bne,BEq.beq]
def yKy {s:Int} {l:List xV} (hs:l.Pairwise λr r'=>jj s r.dp r'.dp=ar) {R1 R2:List xV} {r:xV} (hl:l=R1++r::R2):yA s l r.dp=R1.length:=by
 subst hl;rw[af]at hs;refine rX (by simp) (λk hk x hx=> ?_) (λx hx=> ?_)
 ·rw[Fb hk]at hx;exact hs.2.2 x (mc hx) r jg
 ·rw[CY (mg _),Hx]at hx;cases hx;exact eU _ _
def yMs (b:dt) (id:Int) {s:Int} (hs:s=1\/s=2):(b.ki s id).a=b.a/\(b.ki s id).fv=b.fv/\(b.ki s id).ff=b.ff/\(b.ki s id).spare=b.spare/\∀s',s'=1\/s'=2->(b.ki s id).jd s'=b.jd s'/\(b.ki s id).nn s'=if s'=s/\b.jd s=id then au else b.nn s':=by
 rw[dt.ki];by_cases hc:b.nn s=ar/\b.jd s=id
 ·rw[fk hc];rcases hs with rfl|rfl
  ·exact(oT (λs' h=>by rcases h with rfl|rfl;exact⟨rfl,(fk ⟨rfl,hc.2⟩).symm⟩;exact⟨rfl,(dx (λe=>absurd e.1 Z8)).symm⟩))
  ·exact(oT (λs' h=>by rcases h with rfl|rfl;exact⟨rfl,(dx (λe=>absurd e.1 Z8)).symm⟩;exact⟨rfl,(fk ⟨rfl,hc.2⟩).symm⟩))
 ·rw[dx hc];refine(oT (λs' h=>⟨rfl,?_⟩));split
  ·rename_i e;rw[e.1];cases hh:b.nn s with
   |false=>rfl
   |true=>exact absurd ⟨hh,e.2⟩ hc
  ·rfl
def dt.Core.close {b:dt} {Q:List (List Nat)} {s:Int} (hs:s=1\/s=2) {r:xV} {R1 R2:List xV} (hr:b.eg s=R1++r::R2) (c:b.Core Q r.queue) (he:xI Q r=[]) {b':dt} (hb:b'=({b with spare:=b.spare++[r.queue]}:dt).sw s (R1++R2)):
 b'.Core Q (-1)/\b'.flat Q=b.flat Q:=by
 obtain⟨g1,g2⟩:=zRx ({b with spare:=b.spare++[r.queue]}:dt) hs (R1++R2);rw[<- hb]at g1 g2;have ha:b'.a=b.a:=by rw[hb];rcases hs with rfl|rfl<;>rfl
 have uf:b'.at_=b.at_:=by rw[hb];rcases hs with rfl|rfl<;>rfl
 have te:b'.spare=b.spare++[r.queue]:=by rw[hb];rcases hs with rfl|rfl<;>rfl
 have Fk:b'.qs.Perm b.qs:=by
  rw[hb];rcases hs with rfl|rfl
  ·have hr:b.fv=R1++r::R2:=hr;show((R1++R2).map (·.queue)++b.ff.map (·.queue)++(b.spare++[r.queue])).Perm (b.fv.map (·.queue)++b.ff.map (·.queue)++b.spare)
   rw[hr,<- km];refine(Pv _ _).trans ?_;simp only[jz,iT,km,tu];exact ni.symm
  ·have hr:b.ff=R1++r::R2:=hr;show(b.fv.map (·.queue)++(R1++R2).map (·.queue)++(b.spare++[r.queue])).Perm (b.fv.map (·.queue)++b.ff.map (·.queue)++b.spare)
   rw[hr,<- km];refine(Pv _ _).trans ?_;simp only[jz,iT,km,tu];refine .trans ?_ (cp _ ni.symm);exact ni.symm
 have pj:∀s',s'=1\/s'=2->b'.iy Q s'=b.iy Q s':=by
  intro s' iR;have ho:∀x,b'.iv Q s' x=b.iv Q s' x:=λx=>by rw[dt.iv,dt.iv,ha]
  rw[dt.iy,dt.iy];by_cases e:s'=s
  ·subst e;rw[g1,hr,zk,zk,xu,xK (λx _=>ho x),xK (l:=R2) (λx _=>ho x)];rw[show b.iv Q s' r=[]by rw[dt.iv,he];rfl,zi]
  ·rw[g2 s' e iR];exact xK λx _=>ho x
 have Ae:∀s',s'=1\/s'=2->b'.nh Q s'=b.nh Q s':=by
  intro s' iR;rw[dt.nh,dt.nh,ha];by_cases e:s'=s
  ·subst e;rw[g1,hr,zk,zk,xu,he,CS,zi]
  ·rw[g2 s' e iR];rfl
 have tq:b'.flat Q=b.flat Q:=by rw[dt.flat,dt.flat,pj 1 (.inl rfl),pj 2 (.inr rfl)]
 have ry:=Fk.nodup_iff.2 c.nd;have aaG:r.queue∉(R1++R2).map (·.queue):=by
  intro hm;have h1:r.queue∈(b'.eg s).map (·.queue):=by rw[g1];exact hm
  rw[dt.qs]at ry;have h2:=(AA.1 ry).2.2 r.queue (by
   rcases hs with rfl|rfl
   ·exact yo _ h1
   ·exact zp _ h1) r.queue (by rw[te];simp)
  exact h2 rfl
 refine⟨⟨by rw[ha];exact c.wf,λs' iR=> ?_,λq hq=>c.vf q (Fk.mem_iff.1 hq),ry,by rw[Fk.length_eq];exact c.ql,λs' iR x hx _=> ?_,λq hq=> ?_,by rw[uf,Ae 1 (.inl rfl),Ae 2 (.inr rfl)];exact c.at_,by rw[tq];exact c.ids,c.qb⟩,tq⟩
 ·by_cases e:s'=s
  ·subst e;have:=c.uo s' iR;rw[hr]at this;rw[g1];exact this.sublist (List.Sublist.append_left (List.sublist_cons_self _ _) _)
  ·rw[g2 s' e iR];exact c.uo s' iR
 ·by_cases e:s'=s
  ·subst e;rw[g1]at hx;refine c.ne s' iR x (by rw[hr];rcases qq.1 hx with h|h;exact yo _ h;exact zp _ (jx _ h)) λe2=>aaG (e2▸pn (f:=(·.queue)) hx)
  ·rw[g2 s' e iR]at hx;refine c.ne s' iR x hx λe2=> ?_
   have h1:r.queue∈(b'.eg s').map (·.queue):=by rw[g2 s' e iR,<- e2];exact pn (f:=(·.queue)) hx
   rw[dt.qs]at ry;exact(AA.1 ry).2.2 r.queue (by
    rcases iR with rfl|rfl
    ·exact yo _ h1
    ·exact zp _ h1) r.queue (by rw[te];simp) rfl
 ·rw[te]at hq;rcases qq.1 hq with hq|hq
  ·exact c.sp q hq
  ·rw[xj.1 hq];exact he
def YP {L:List zE} (h:(L.map (·.id)).Nodup) {id:Int} (hh:kW L id=ar):yU L id (cT L id).dq=L.filter λo=> !decide (o.id=id):=by
 rw[yU,<- List.filterMap_eq_filter];refine u0 λo ho=> ?_
 by_cases e:o.id=id
 ·have hg:=gY h ho;rw[e]at hg;rw[fk e,fk (by rw[hg])];simp[Option.guard,e]
 ·rw[dx e];simp[Option.guard,e]
def dt.Core.gone {b:dt} {Q:List (List Nat)} (c:b.Core Q (-1)) (ht:b.BF (b.flat Q)) {id s:Int} {r:xV} {k:Nat} (h:Told b Q id s r k) {q:Int} (hq:1<=q/\q=(b.a.fg k).dq):
 (b.a.gz k q).2=0/\(({b with a:=(b.a.gz k q).1}:dt).iP s id r.dp).fy (yU (b.flat Q) id q)/\(b.a.gz k q).1.dv.length=250/\(b.a.gz k q).1.dy.length=b.a.dy.length/\((b.a.gz k q).1.og k).2=au/\yA s (b.eg s) r.dp<(b.eg s).length:=by
 obtain⟨t1,t2,t3⟩:=c.wf.take (c.get h.hs h.hr) h.hk (q:=q) ⟨hq.1,oM⟩;rw[fk hq.2.symm]at t3;obtain⟨w,t4,t5⟩:=t3;generalize hA:(b.a.gz k q).1=a1 at*;have kj:=c.get h.hs h.hr;have Fo:=(ju.1 kj).1;have NF:=c.vf _ (fH h.hs h.hr);generalize Rm:Q.set r.queue.toNat ((xI Q r).erase k)=Q' at*;have JH:Q'.length=Q.length:=by rw[<- Rm,rj]
 have ry:(xI Q r).Nodup:=c.wf.nd _ _ kj;have Fl:∀s' (r':xV),(s'=1\/s'=2)->r'∈b.eg s'->xI Q' r'=(xI Q r').erase k:=by
  intro s' r' iR oB;by_cases e:r'.queue=r.queue
  ·have e1:xI Q r'=xI Q r:=by rw[xI,xI,e]
   rw[e1,xI,e,<- Rm];exact zJ (uM Fo)
  ·have h2:xI Q' r'=xI Q r':=by
    have:=c.vf _ (fH iR oB);rw[xI,xI,mi,mi,<- Rm,h9 (by omega)]
   rw[h2];symm;refine List.erase_of_not_mem λhk=> ?_
   have:=c.wf.tozo.one (c.get iR oB) kj hk h.hk;have:=c.vf _ (fH iR oB);omega
 have hQo:∀q:Int,0<=q->q≠r.queue->Q'.getD q.toNat []=Q.getD q.toNat []:=by
  intro q h0 jf;rw[<- Rm,mi,h9 (by omega),mi]
 obtain⟨u1,u2,u3,u4,u5⟩:=yMs ({b with a:=a1}:dt) id h.hs;obtain⟨b1,qu⟩:∃b1:dt,b1={({b with a:=a1}:dt).ki s id with at_:=rF id b.at_}:=⟨_,rfl⟩
 have v1:b1.a=a1:=by rw[qu];exact u1
 have v2:b1.fv=b.fv:=by rw[qu];exact u2
 have v3:b1.ff=b.ff:=by rw[qu];exact u3
 have v4:b1.spare=b.spare:=by rw[qu];exact u4
 have v5:b1.at_=rF id b.at_:=by rw[qu]
 have v6:∀s',s'=1\/s'=2->b1.jd s'=b.jd s'/\b1.nn s'=if s'=s/\b.jd s=id then au else b.nn s':=by
  intro s' iR;rw[qu];exact u5 s' iR
 have vr:∀s',b1.eg s'=b.eg s':=by intro s';rw[dt.eg,dt.eg,v2,v3]
 have vq:b1.qs=b.qs:=by rw[dt.qs,dt.qs,v2,v3,v4]
 have AS:∀s',s'=1\/s'=2->b1.iy Q' s'=(b.iy Q s').filter (λo=> !decide (o.id=id))/\b1.nh Q' s'=(b.nh Q s').filter λx=> !decide (x.1=id):=by
  intro s' iR;rw[dt.iy,dt.iy,dt.nh,dt.nh,vr,List.filter_flatMap,List.filter_flatMap];have key:∀r'∈b.eg s',∀j∈xI Q r',((b.a.fg j).id=id↔j=k)/\(j≠k->v7 a1 s' r'.dp j=v7 b.a s' r'.dp j/\uT a1 s' r'.dp j=uT b.a s' r'.dp j):=by
   intro r' oB j hj;refine⟨h.only c iR oB hj,λe=> ?_⟩;have:=(t2 j e).1;refine⟨by rw[v7,v7,this],?_⟩;have:=congrArg D5.id this;rw[uT,uT];exact congrArg (λi=>(i,(⟨s',r'.dp,j⟩:Place))) this
  refine⟨xK λr' oB=> ?_,xK λr' oB=> ?_⟩
  ·rw[dt.iv,dt.iv,Fl s' r' iR oB,zGz (c.wf.nd _ _ (c.get iR oB)),List.filter_map,v1];have e1:(xI Q r').filter ((λo:zE=> !decide (o.id=id))∘v7 b.a s' r'.dp)=(xI Q r').filter λj=> !decide (j=k):=by
    refine aj λj hj=> ?_
    show(!decide ((b.a.fg j).id=id))=_;rw[decide_eq_decide.2 (key r' oB j hj).1]
   rw[e1];refine vy λj hj=> ?_
   rw[qk]at hj;exact((key r' oB j hj.1).2 (by simpa using hj.2)).1
  ·rw[Fl s' r' iR oB,zGz (c.wf.nd _ _ (c.get iR oB)),List.filter_map,v1];have e1:(xI Q r').filter ((λx:Int×Place=> !decide (x.1=id))∘uT b.a s' r'.dp)=(xI Q r').filter λj=> !decide (j=k):=by
    refine aj λj hj=> ?_
    show(!decide ((b.a.fg j).id=id))=_;rw[decide_eq_decide.2 (key r' oB j hj).1]
   rw[e1];refine vy λj hj=> ?_
   rw[qk]at hj;exact((key r' oB j hj.1).2 (by simpa using hj.2)).2
 have tq:b1.flat Q'=(b.flat Q).filter λo=> !decide (o.id=id):=by
  rw[dt.flat,(AS 1 (.inl rfl)).1,(AS 2 (.inr rfl)).1,dt.flat,Jj]
 have uf:b1.at_.Perm (b1.nh Q' 1++b1.nh Q' 2):=by
  rw[v5,yAy c.keys,(AS 1 (.inl rfl)).2,(AS 2 (.inr rfl)).2,<- Jj];exact c.at_.filter _
 have hold:∀s' (r':xV),(s'=1\/s'=2)->r'∈b.eg s'->xI Q r'≠[]:=λs' r' iR oB=>c.ne s' iR r' oB λe=>by
  have:=c.vf _ (fH iR oB);omega
 have c1:b1.Core Q' r.queue:=by
  refine⟨by rw[v1];exact w,λs' iR=>by rw[vr];exact c.uo s' iR,by rw[vq,JH];exact c.vf,by rw[vq];exact c.nd,by rw[vq,JH];exact c.ql,λs' iR r' oB jf=> ?_,λq hq=> ?_,uf,?_,by rw[JH];exact c.qb⟩
  ·rw[vr]at oB;have e:=hQo r'.queue (c.vf _ (fH iR oB)).1 jf;rw[xI,e];exact hold s' r' iR oB
  ·rw[v4]at hq;have NH:q∈b.qs:=zp _ hq;rw[hQo q (c.vf q NH).1 λe=> ?_]
   ·exact c.sp q hq
   ·have Cn:=c.nd;rw[dt.qs]at Cn;refine(AA.1 Cn).2.2 r.queue ?_ q hq e.symm;rcases h.hs with rfl|rfl
    ·exact yo _ (pn (f:=(·.queue)) h.hr)
    ·exact zp _ (pn (f:=(·.queue)) h.hr)
  ·rw[tq];exact c.ids.sublist (List.Sublist.map _ HC)
 have PR:yU (b.flat Q) id q=b1.flat Q':=by
  rw[tq,<- YP c.ids h.has,h.get,hq.2];rfl
 have hm1:∀o,o∈b1.flat Q'↔o∈b.flat Q/\o.id≠id:=by
  intro o;rw[tq,qk];simp
 have WB:∀b2:dt,(∀x,b2.nn x=b1.nn x/\b2.jd x=b1.jd x)->b2.BF (b1.flat Q'):=by
  intro b2 oG;refine⟨λo ho=> ?_,λs' iR hh=> ?_⟩
  ·rw[(oG _).1,(oG _).2];obtain⟨ho,jf⟩:=(hm1 o).1 ho;have iR:=(rY ho).1;rw[(v6 _ iR).1,(v6 _ iR).2,ht.fl o ho];split
   ·rename_i e;rw[e.1,e.2,jq jf,Hy,Hy]
   ·rfl
  ·rw[(oG _).1,(v6 s' iR).2]at hh;rw[(oG _).2,(v6 s' iR).1];split at hh
   ·cases hh
   ·rename_i e;obtain⟨o,ho,o1,o2⟩:=ht.th s' iR hh;refine⟨o,(hm1 o).2 ⟨ho,λe2=>e ?_⟩,o1,o2⟩;have hg:=gY c.ids ho;rw[e2,h.get]at hg;have yt:s'=s:=by rw[<- o1,<- hg];rfl
    exact⟨yt,by rw[<- yt,<- o2,e2]⟩
 obtain⟨R1,R2,pk⟩:=List.append_of_mem h.hr;have HV:=yKy (c.uo s h.hs) pk;have rl:(b.eg s).getD (yA s (b.eg s) r.dp) ⟨0,0⟩=r:=by
  rw[HV,pk];refine zJ ?_;rw[CY (mg _),Hx];rfl
 have Bl:yA s (b.eg s) r.dp<(b.eg s).length:=by rw[HV,pk];simp
 have hQr:Q'[r.queue.toNat]? =ba ((xI Q r).erase k):=by rw[<- Rm];exact uM Fo
 have Mh:(a1.qx r.queue).count=((xI Q r).erase k).length:=by
  have:=w.q _ _ hQr;have HN:=w.ql;rw[Ty NF.1 this]
 have er:xI Q' r=(xI Q r).erase k:=zJ hQr;have hru:({b with a:=a1}:dt).eg s=b.eg s:=rfl;have PN:(a1.og k).2=au:=by
  have:a1.iB k=au:=by
   have e:a1.fg k=iK:=t4;rw[dw.fg]at e;rw[dw.iB,ml,e];simp[iK]
  rw[dw.og,dx (by rw[this];decide)]
 refine⟨t1,?_,w.len,by rw[w.ql,c.wf.ql,JH],PN,Bl⟩;rw[dt.iP,hru,rl];by_cases hz:(a1.qx r.queue).count=0
 ·rw[fk hz];have he:xI Q' r=[]:=by
   rw[er];refine zm ?_;omega
  obtain⟨k1,k2⟩:=dt.Core.close h.hs (by rw[vr];exact pk) c1 he rfl;have ebk:(({({b with a:=a1}:dt).ki s id with at_:=rF id b.at_,spare:=b.spare++[r.queue]}:dt).sw s ((b.eg s).take (yA s (b.eg s) r.dp)++(b.eg s).drop (yA s (b.eg s) r.dp+1)))=(({b1 with spare:=b1.spare++[r.queue]}:dt).sw s (R1++R2)):=by
   have e1:(b.eg s).take (yA s (b.eg s) r.dp)++(b.eg s).drop (yA s (b.eg s) r.dp+1)=R1++R2:=by
    rw[HV,pk,Ng];congr 1;rw[KV,HD (by omega),Nat.add_sub_cancel_left];rfl
   rw[e1,v4,qu]
  refine⟨Q',?_,?_,?_⟩
  ·exact ebk▸k1
  ·rw[PR];refine WB _ λx=> ?_
   show(dt.nn (({({b with a:=a1}:dt).ki s id with at_:=rF id b.at_,spare:=b.spare++[r.queue]}:dt).sw s ((b.eg s).take (yA s (b.eg s) r.dp)++(b.eg s).drop (yA s (b.eg s) r.dp+1))) x=_/\dt.jd (({({b with a:=a1}:dt).ki s id with at_:=rF id b.at_,spare:=b.spare++[r.queue]}:dt).sw s ((b.eg s).take (yA s (b.eg s) r.dp)++(b.eg s).drop (yA s (b.eg s) r.dp+1))) x=_);rw[ebk];rcases h.hs with rfl|rfl<;>exact⟨rfl,rfl⟩
  ·rw[PR];show _=dt.flat (({({b with a:=a1}:dt).ki s id with at_:=rF id b.at_,spare:=b.spare++[r.queue]}:dt).sw s ((b.eg s).take (yA s (b.eg s) r.dp)++(b.eg s).drop (yA s (b.eg s) r.dp+1))) Q';rw[ebk];exact k2.symm
 ·rw[dx hz];have c2:b1.Core Q' (-1):=⟨c1.wf,c1.uo,c1.vf,c1.nd,c1.ql,λs' iR r' oB _=>by
   by_cases e:r'.queue=r.queue
   ·rw[xI,e];intro e2;rw[xI]at er;rw[er]at e2;rw[Mh,e2]at hz;exact hz rfl
   ·exact c1.ne s' iR r' oB e,c1.sp,c1.at_,c1.ids,c1.qb⟩
  have hh:({({b with a:=a1}:dt).ki s id with at_:=rF id b.at_}:dt)=b1:=qu.symm;show dt.fy {({b with a:=a1}:dt).ki s id with at_:=rF id b.at_} _;rw[hh,PR];exact⟨Q',c2,WB b1 λ_=>⟨rfl,rfl⟩,rfl⟩
def sY (k:Int):∀l,rC (cm bu k) (jv l)=jv (rF k l)
 |[]=>rfl
 |(a,b)::l=>by
  have ih:=sY k l;show(bif (xw .i64 .i64 && decide (k=a))then jv l else _::rC _ (jv l))=_;rw[ih,rF];by_cases h:k=a
  ·subst h;simp[xw]
  ·simp[h,jv]
def yDz:Th.ok Tryz.prog 246:=
 IG mixed Tryz.func246 rfl (by kernel_rfl) (by kernel_rfl) (by kernel_rfl) (by kernel_rfl) Y1 rfl Z8 (λs sn sk i j w R=>by kernel_rfl)
def dup {X:Prop} {n:Int} (h:X):X/\n=n/\True/\X:=⟨h,rfl,trivial,h⟩
def dt.Core.small {b:dt} {Q:List (List Nat)} (c:b.Core Q (-1)):b.small:=by
 have hq:=c.qb;have h1:=c.ql;have h2:=c.wf.ql;have h3:=c.wf.len;rw[dt.qs,iQ,iQ,iz,iz]at h1;exact⟨⟨oM,oM⟩,oM,oM,oM⟩
def y0l (i:Bt) (h:Gi.du i):yJm i:=by
 obtain⟨xx,hn⟩:i.ok 1:=h;obtain⟨⟨ha1,ha2⟩,qu,oG,te⟩:=id xx;have hn:yA 1 i.b.fv i.dp<i.b.fv.length:=hn;obtain⟨r,hr⟩:=z6 (l:=i.b.fv) hn;have rl:((i.b.eg 1).getD (yA 1 (i.b.eg 1) i.dp) ⟨0,0⟩)=r:=zJ hr;have hw:∀k:Int,bu.wrap ((yA 1 (i.b.eg 1) i.dp:Int)+1)=((yA 1 (i.b.eg 1) i.dp+1:Nat):Int):=λ_=>by
  have:=UA 1 i.dp (i.b.eg 1);have hl:(i.b.eg 1).length<=1000000:=by show i.b.fv.length<=_;omega
  rw[iD (by omega)];rfl
 have Lf:((yA 1 (i.b.eg 1) i.dp:Nat):Int)<((aa zC i.b.fv).length:Int):=by
  rw[iz];show((yA 1 i.b.fv i.dp:Nat):Int)<_;omega
 unfold yJm Y7 QO ZC QR Hh Qb4 fp ez dS uY qN QL qA xG dI;refine⟨wS _ _,Cv.du.mk (λc1=>Cv.du.mk (λc2=> ?_) (λc2=> ?_)) (λc1=> ?_)⟩
 ·have c2:i.b.iN=i.id:=by simpa using c2
  have hu:i.b.ki 1 i.id={i.b with gp:=au}:=by rw[dt.ki,fk ⟨c1,c2⟩];rfl
  refine⟨⟨{i.b with gp:=au,at_:=rF i.id i.b.at_},i.dp⟩,iH ⟨rfl,(sY _ _).symm,rfl,xx,λ_ _=>⟨⟨oM,Lf⟩,r.queue,kf hr (by simp[zC]) rfl,⟨i.b.a,r.queue⟩,rfl,rfl,trivial,λ_ _=>Cv.du.mk (λe=>⟨by simp only[yW];omega,⟨i.b.fv.map zC,yA 1 (i.b.eg 1) i.dp,yA 1 (i.b.eg 1) i.dp+1⟩,rfl,(hw 0).symm,rfl,⟨KT _,by rw[iz];exact hn⟩,λ_ _=>⟨rfl,(),?_⟩⟩) (λe=>⟨(),?_⟩)⟩⟩⟩
  ·have e:(i.b.a.qx r.queue).count=0:=by simpa using e
   rw[dt.iP,rl,fk e,hu];refine(A6 ⟨rfl,?_,rfl,?_,trivial⟩)
   ·show aa zC (i.b.fv.take _++i.b.fv.drop _)=_;rw[jz,GS,Jd]
   ·show iE (i.b.spare++[r.queue])=_;simp[iE]
  ·have e:¬(i.b.a.qx r.queue).count=0:=by simpa using e
   rw[dt.iP,rl,dx e,hu];exact(oE (jh trivial))
 ·have c2:¬i.b.iN=i.id:=by simpa using c2
  have hu:i.b.ki 1 i.id={i.b with gp:=i.b.gp}:=by rw[dt.ki,dx (λe=>c2 e.2)]
  refine⟨⟨{i.b with gp:=i.b.gp,at_:=rF i.id i.b.at_},i.dp⟩,iH ⟨rfl,(sY _ _).symm,rfl,xx,λ_ _=>⟨⟨oM,Lf⟩,r.queue,kf hr (by simp[zC]) rfl,⟨i.b.a,r.queue⟩,rfl,rfl,trivial,λ_ _=>Cv.du.mk (λe=>⟨by simp only[yW];omega,⟨i.b.fv.map zC,yA 1 (i.b.eg 1) i.dp,yA 1 (i.b.eg 1) i.dp+1⟩,rfl,(hw 0).symm,rfl,⟨KT _,by rw[iz];exact hn⟩,λ_ _=>⟨rfl,(),?_⟩⟩) (λe=>⟨(),?_⟩)⟩⟩⟩
  ·have e:(i.b.a.qx r.queue).count=0:=by simpa using e
   rw[dt.iP,rl,fk e,hu];refine(A6 ⟨rfl,?_,rfl,?_,trivial⟩)
   ·show aa zC (i.b.fv.take _++i.b.fv.drop _)=_;rw[jz,GS,Jd]
   ·show iE (i.b.spare++[r.queue])=_;simp[iE]
  ·have e:¬(i.b.a.qx r.queue).count=0:=by simpa using e
   rw[dt.iP,rl,dx e,hu];exact(oE (jh trivial))
 ·have hu:i.b.ki 1 i.id={i.b with gp:=i.b.gp}:=by
   rw[dt.ki,dx];rintro⟨e,_⟩;exact absurd (show i.b.gp=ar from e) (by rw[c1];decide)
  refine⟨⟨{i.b with gp:=i.b.gp,at_:=rF i.id i.b.at_},i.dp⟩,iH ⟨rfl,(sY _ _).symm,rfl,xx,λ_ _=>⟨⟨oM,Lf⟩,r.queue,kf hr (by simp[zC]) rfl,⟨i.b.a,r.queue⟩,rfl,rfl,trivial,λ_ _=>Cv.du.mk (λe=>⟨by simp only[yW];omega,⟨i.b.fv.map zC,yA 1 (i.b.eg 1) i.dp,yA 1 (i.b.eg 1) i.dp+1⟩,rfl,(hw 0).symm,rfl,⟨KT _,by rw[iz];exact hn⟩,λ_ _=>⟨rfl,(),?_⟩⟩) (λe=>⟨(),?_⟩)⟩⟩⟩
  ·have e:(i.b.a.qx r.queue).count=0:=by simpa using e
   rw[dt.iP,rl,fk e,hu];refine(A6 ⟨rfl,?_,rfl,?_,trivial⟩)
   ·show aa zC (i.b.fv.take _++i.b.fv.drop _)=_;rw[jz,GS,Jd]
   ·show iE (i.b.spare++[r.queue])=_;simp[iE]
  ·have e:¬(i.b.a.qx r.queue).count=0:=by simpa using e
   rw[dt.iP,rl,dx e,hu];exact(oE (jh trivial))
def yPk:Gi.ok Tryz.prog 235:=ix mixed (dz XY (dz rO (dz yDz fx))) 0 (λ_=>[]) (λ_=>[]) [] Tryz.func235 y0l
def y4c (i:Bt) (h:Gh.du i):yQy i:=by
 obtain⟨xx,hn⟩:i.ok 2:=h;obtain⟨⟨ha1,ha2⟩,qu,oG,te⟩:=id xx;have hn:yA 2 i.b.ff i.dp<i.b.ff.length:=hn;obtain⟨r,hr⟩:=z6 (l:=i.b.ff) hn;have rl:((i.b.eg 2).getD (yA 2 (i.b.eg 2) i.dp) ⟨0,0⟩)=r:=zJ hr;have hw:∀k:Int,bu.wrap ((yA 2 (i.b.eg 2) i.dp:Int)+1)=((yA 2 (i.b.eg 2) i.dp+1:Nat):Int):=λ_=>by
  have:=UA 2 i.dp (i.b.eg 2);have hl:(i.b.eg 2).length<=1000000:=by show i.b.ff.length<=_;omega
  rw[iD (by omega)];rfl
 have Lf:((yA 2 (i.b.eg 2) i.dp:Nat):Int)<((aa zC i.b.ff).length:Int):=by
  rw[iz];show((yA 2 i.b.ff i.dp:Nat):Int)<_;omega
 unfold yQy QO Zp QO Zt QR QT Hh fp ez dR gC qN QL x9 xH dI;refine⟨wS _ _,Cv.du.mk (λc1=>Cv.du.mk (λc2=> ?_) (λc2=> ?_)) (λc1=> ?_)⟩
 ·have c2:i.b.iM=i.id:=by simpa using c2
  have hu:i.b.ki 2 i.id={i.b with gj:=au}:=by rw[dt.ki,fk ⟨c1,c2⟩];rfl
  refine⟨⟨{i.b with gj:=au,at_:=rF i.id i.b.at_},i.dp⟩,iH ⟨rfl,(sY _ _).symm,rfl,xx,λ_ _=>⟨⟨oM,Lf⟩,r.queue,kf hr (by simp[zC]) rfl,⟨i.b.a,r.queue⟩,rfl,rfl,trivial,λ_ _=>Cv.du.mk (λe=>⟨by simp only[yW];omega,⟨i.b.ff.map zC,yA 2 (i.b.eg 2) i.dp,yA 2 (i.b.eg 2) i.dp+1⟩,rfl,(hw 0).symm,rfl,⟨KT _,by rw[iz];exact hn⟩,λ_ _=>⟨rfl,(),?_⟩⟩) (λe=>⟨(),?_⟩)⟩⟩⟩
  ·have e:(i.b.a.qx r.queue).count=0:=by simpa using e
   rw[dt.iP,rl,fk e,hu];refine(oE ⟨rfl,?_,?_,trivial⟩)
   ·show aa zC (i.b.ff.take _++i.b.ff.drop _)=_;rw[jz,GS,Jd]
   ·show iE (i.b.spare++[r.queue])=_;simp[iE]
  ·have e:¬(i.b.a.qx r.queue).count=0:=by simpa using e
   rw[dt.iP,rl,dx e,hu];exact(oE (jh trivial))
 ·have c2:¬i.b.iM=i.id:=by simpa using c2
  have hu:i.b.ki 2 i.id={i.b with gj:=i.b.gj}:=by rw[dt.ki,dx (λe=>c2 e.2)]
  refine⟨⟨{i.b with gj:=i.b.gj,at_:=rF i.id i.b.at_},i.dp⟩,iH ⟨rfl,(sY _ _).symm,rfl,xx,λ_ _=>⟨⟨oM,Lf⟩,r.queue,kf hr (by simp[zC]) rfl,⟨i.b.a,r.queue⟩,rfl,rfl,trivial,λ_ _=>Cv.du.mk (λe=>⟨by simp only[yW];omega,⟨i.b.ff.map zC,yA 2 (i.b.eg 2) i.dp,yA 2 (i.b.eg 2) i.dp+1⟩,rfl,(hw 0).symm,rfl,⟨KT _,by rw[iz];exact hn⟩,λ_ _=>⟨rfl,(),?_⟩⟩) (λe=>⟨(),?_⟩)⟩⟩⟩
  ·have e:(i.b.a.qx r.queue).count=0:=by simpa using e
   rw[dt.iP,rl,fk e,hu];refine(oE ⟨rfl,?_,?_,trivial⟩)
   ·show aa zC (i.b.ff.take _++i.b.ff.drop _)=_;rw[jz,GS,Jd]
   ·show iE (i.b.spare++[r.queue])=_;simp[iE]
  ·have e:¬(i.b.a.qx r.queue).count=0:=by simpa using e
   rw[dt.iP,rl,dx e,hu];exact(oE (jh trivial))
 ·have hu:i.b.ki 2 i.id={i.b with gj:=i.b.gj}:=by
   rw[dt.ki,dx];rintro⟨e,_⟩;exact absurd (show i.b.gj=ar from e) (by rw[c1];decide)
  refine⟨⟨{i.b with gj:=i.b.gj,at_:=rF i.id i.b.at_},i.dp⟩,iH ⟨rfl,(sY _ _).symm,rfl,xx,λ_ _=>⟨⟨oM,Lf⟩,r.queue,kf hr (by simp[zC]) rfl,⟨i.b.a,r.queue⟩,rfl,rfl,trivial,λ_ _=>Cv.du.mk (λe=>⟨by simp only[yW];omega,⟨i.b.ff.map zC,yA 2 (i.b.eg 2) i.dp,yA 2 (i.b.eg 2) i.dp+1⟩,rfl,(hw 0).symm,rfl,⟨KT _,by rw[iz];exact hn⟩,λ_ _=>⟨rfl,(),?_⟩⟩) (λe=>⟨(),?_⟩)⟩⟩⟩
  ·have e:(i.b.a.qx r.queue).count=0:=by simpa using e
   rw[dt.iP,rl,fk e,hu];refine(oE ⟨rfl,?_,?_,trivial⟩)
   ·show aa zC (i.b.ff.take _++i.b.ff.drop _)=_;rw[jz,GS,Jd]
   ·show iE (i.b.spare++[r.queue])=_;simp[iE]
  ·have e:¬(i.b.a.qx r.queue).count=0:=by simpa using e
   rw[dt.iP,rl,dx e,hu];exact(oE (jh trivial))
def yNp:Gh.ok Tryz.prog 235:=ix mixed (dz XA (dz rO (dz yDz fx))) 0 (λ_=>[]) (λ_=>[]) [] Tryz.func235 y4c
def yTc:Te.ok Tryz.prog 235:=λj=>match j with
 |⟨i,au⟩=>yPk i
 |⟨i,ar⟩=>yNp i
def yRt {a:dw} {k:Nat} {p t:Int} {m:Nat} (h:Vt (a.fg k) m k p t) (hl:k<a.dv.length):a.og k=((a.fg k).qh,ar):=by
 have:a.iB k=ar:=by
  simp only[dw.iB,ld,sm,ml];exact⟨oM,oM,h.used⟩
 rw[dw.og,fk this,ml]
def z3o {b:dt} {Q:List (List Nat)} (c:b.Core Q (-1)) {id s:Int} {r:xV} {k:Nat} (h:Told b Q id s r k):b.a.og k=((b.a.fg k).qh,ar)/\(b.a.fg k).dq<=1000000/\1<=(b.a.fg k).dq:=by
 obtain⟨h1,⟨p,t,h2⟩,h3⟩:=c.wf.tozo.mem (c.get h.hs h.hr) h.hk;exact⟨yRt h2 (by rw[c.wf.len];exact h1),h2.q2,c.wf.pos _ _ (c.get h.hs h.hr) _ h.hk⟩
def y1w (i:Cr) (h:Gn.du i):yNk i:=by
 obtain⟨Q,c,ht,hL⟩:i.b.fy i.L:=h;unfold yNk QQ ez YH QQ Hh fp ez zFa QF tR dI;rcases c.told i.id with⟨hg,hn⟩|⟨s,r,k,hT⟩
 ·refine⟨wS _ _,au,0,0,0,.inr ⟨?_,rfl,rfl⟩,Cv.du.mk (λ_=> ?_) (λe=>absurd e Z8)⟩
  ·rw[M0,hg];rfl
  ·rw[<- hL]at hn;rw[yZn hn,hn];exact⟨(),ic⟩
 ·refine⟨wS _ _,ar,s,r.dp,k,.inl ⟨?_,rfl⟩,Cv.du.mk (λe=>absurd e Z8) (λ_=>dup ⟨⟨i.b.a,k⟩,rfl,rfl,by dsimp only;rw[c.wf.len];decide,λ_ _=>⟨(),?_⟩⟩)⟩
  ·rw[M0,hT.e];rfl
  ·have h1:=hT.get;have h2:=hT.has;rw[<- hL]at h1 h2;rw[h1,h2,(z3o c hT).1];exact⟨hT.ident,ic⟩
def z3m:Gn.ok Tryz.prog 198:=ix mixed (dz yBw fx) 0 (λ_=>[]) (λ_=>[]) [0] Tryz.func198 y1w
def dt.Core.D7 {b:dt} {Q:List (List Nat)} (c:b.Core Q (-1)):b.a.D7:=c.wf.tozo.ok
def y8s (i:Cr) (h:Kg.du i):yYu i:=by
 have hR:i.b.fy i.L:=h;obtain⟨Q,c,ht,hL⟩:=id hR;unfold yYu QO fp Xw QO fp Yd QG QL QO fp uE U4 QG tR dI;rcases c.told i.id with⟨hg,hn⟩|⟨s,r,k,hT⟩
 ·refine⟨wS _ _,au,0,0,0,.inr ⟨?_,rfl,rfl⟩,Cv.du.mk (λ_=> ?_) (λe=>absurd e (by simp))⟩
  ·rw[M0,hg];rfl
  ·rw[<- hL]at hn;rw[x4,fk hn];exact⟨i.b,rn (jh hR)⟩
 have hg:=hT.get;have hh:=hT.has;rw[<- hL]at hg hh;obtain⟨Jv,u',tw⟩:=z3o c hT;have NH:(cT i.L i.id).dq=(i.b.a.fg k).dq:=by rw[hg];rfl
 refine⟨wS _ _,ar,s,r.dp,k,.inl ⟨?_,rfl⟩,Cv.du.mk (λe=>absurd e (by simp)) (λ_=>⟨⟨i.b.a,k,i.dq⟩,rfl,rfl,rfl,c.D7,λ_ _=> ?_⟩)⟩
 ·rw[M0,hT.e];rfl
 dsimp only;have hu:i.b.a.iB k=ar:=by
  cases hu:i.b.a.iB k with
  |true=>rfl
  |false=>rw[dw.og,dx (by rw[hu];decide)]at Jv;exact absurd (congrArg Prod.snd Jv) (by simp)
 by_cases hb:i.dq<1\/(i.b.a.fg k).dq<i.dq
 ·have ht:i.b.a.gz k i.dq=(i.b.a,24):=by rw[dw.gz,dx (by rw[hu];decide),ml,fk hb]
  rw[ht];refine Cv.du.mk (λ_=> ?_) (λe=>absurd e (by simp));rw[x4,dx (by rw[hh];decide),fk (by rw[NH];exact hb)];exact⟨i.b,rn (jh hR)⟩
 have Bl:x4 i.L i.id i.dq=(yU i.L i.id i.dq,0):=by rw[x4,dx (by rw[hh];decide),dx (by rw[NH];exact hb)]
 by_cases hf:i.dq=(i.b.a.fg k).dq
 ·obtain⟨g1,g2,g3,g4,g5,g6⟩:=c.gone (by rw[<- hL];exact ht) hT (q:=i.dq) ⟨oM,hf⟩;rw[<- hL]at g2;have xx:=c.small;rw[g1];refine Cv.du.mk (λe=>absurd e (by simp)) (λ_=>dup ⟨⟨(i.b.a.gz k i.dq).1,k⟩,rfl,rfl,by dsimp only;rw[g3];decide,λ_ _=> ?_⟩);dsimp only;rw[g5];refine Cv.du.mk (λ_=> ?_) (λe=>absurd e (by simp));rcases hT.hs with rfl|rfl
  ·refine⟨⟨⟨{i.b with a:=(i.b.a.gz k i.dq).1},i.id,r.dp,k⟩,au⟩,iH (oT ⟨rfl,⟨⟨⟨by dsimp only;rw[g3];decide,by dsimp only;rw[g4];exact xx.1.2⟩,xx.2⟩,g6⟩,λ_ _=> ?_⟩)⟩;refine⟨({i.b with a:=(i.b.a.gz k i.dq).1}:dt).iP 1 i.id r.dp,by rw[Bl],oE (jh (by rw[Bl];exact g2))⟩
  ·refine⟨⟨⟨{i.b with a:=(i.b.a.gz k i.dq).1},i.id,r.dp,k⟩,ar⟩,iH (oT ⟨rfl,⟨⟨⟨by dsimp only;rw[g3];decide,by dsimp only;rw[g4];exact xx.1.2⟩,xx.2⟩,g6⟩,λ_ _=> ?_⟩)⟩;refine⟨({i.b with a:=(i.b.a.gz k i.dq).1}:dt).iP 2 i.id r.dp,by rw[Bl],oE (jh (by rw[Bl];exact g2))⟩
 ·obtain⟨g1,g2,g3,g4,g5⟩:=c.less (by rw[<- hL];exact ht) hT (q:=i.dq) oM;rw[<- hL]at g2;rw[g1];refine Cv.du.mk (λe=>absurd e (by simp)) (λ_=>dup ⟨⟨(i.b.a.gz k i.dq).1,k⟩,rfl,rfl,by dsimp only;rw[g3];decide,λ_ _=> ?_⟩);dsimp only;rw[g4];refine Cv.du.mk (λe=>absurd e (by simp)) (λ_=>Cv.du.mk (λe=> ?_) (λ_=> ?_))
  ·have e:¬((i.b.a.gz k i.dq).1.fg k).qh.id=i.id:=by simpa using e
   exact absurd g5 e
  ·exact⟨{i.b with a:=(i.b.a.gz k i.dq).1},by rw[Bl],oE (jh (by rw[Bl];exact g2))⟩
def yTx:Kg.ok Tryz.prog 222:=ix mixed (dz yPn (dz yBw (dz yTc fx))) 0 (λ_=>[]) (λ_=>[]) [0] Tryz.func222 y8s
def z1g (A B:List zE) (s p:Int):qy (A++B) s p=qy A s p++qy B s p:=Jj _ _
def TC {A:List zE} {s p:Int} (h:∀o∈A,o.side=s->o.dp≠p):qy A s p=[]:=by
 rw[qy,Pp];intro o ho;by_cases e:o.side=s
 ·simp[h o ho e]
 ·simp[e]
def ySu {A:List zE} {s p:Int} (h:∀o∈A,o.side=s/\o.dp=p):qy A s p=A:=by
 rw[qy,KY];intro o ho;simp[h o ho]
def Om {s x y:Int} (h:jj s x y=ar):x≠y:=by
 rintro rfl;rw[eU]at h;cases h
def dt.Core.Km {b:dt} {Q:List (List Nat)} (c:b.Core Q (-1)) {s p:Int} (hs:s=1\/s=2) (h:jP s (b.eg s) p=au):qy (b.flat Q) s p=[]:=by
 have te:=ZY (p:=p) (c.uo s hs);rw[dx (by rw[h];decide)]at te;refine TC λo ho e=> ?_
 obtain⟨_,r,hr,_,hp⟩:=rY ho;rw[e]at hr;rw[hp];rw[<- A3 (yA s (b.eg s) p) (b.eg s)]at hr;rcases qq.1 hr with hr|hr
 ·exact Om (te.1 r hr)
 ·exact(Om (te.2 r hr)).symm
def dt.Core.Gu {b:dt} {Q:List (List Nat)} (c:b.Core Q (-1)) {s p:Int} (hs:s=1\/s=2) (h:jP s (b.eg s) p=ar):∃r,(b.eg s)[yA s (b.eg s) p]? =ba r/\r.dp=p/\r∈b.eg s/\qy (b.flat Q) s p=b.iv Q s r:=by
 have te:=ZY (p:=p) (c.uo s hs);rw[fk h]at te;obtain⟨h1,r,hr,hp,h2⟩:=te;have iq:=(ju.1 hr).1;refine⟨r,hr,hp,mc hr,?_⟩;have pk:b.eg s=(b.eg s).take (yA s (b.eg s) p)++r::(b.eg s).drop (yA s (b.eg s) p+1):=by
  conv=>lhs;rw[<- A3 (yA s (b.eg s) p) (b.eg s)]
  rw[DQ iq,(ju.1 hr).2]
 have pj:qy (b.iy Q s) s p=b.iv Q s r:=by
  rw[dt.iy,pk,zk,xu,z1g,z1g,TC,ySu,TC,pd,zi]
  ·intro o ho _;obtain⟨r',oB,ho⟩:=yg.1 ho;rw[(qS ho).2];exact(Om (h2 r' oB)).symm
  ·intro o ho;rw[<- hp];exact qS ho
  ·intro o ho _;obtain⟨r',oB,ho⟩:=yg.1 ho;rw[(qS ho).2];exact Om (h1 r' oB)
 have F9:∀s',s'≠s->qy (b.iy Q s') s p=[]:=λs' jf=>TC λo ho e=>absurd ((m9 ho).1.symm.trans e) jf
 rw[dt.flat,z1g];rcases hs with rfl|rfl
 ·rw[pj,F9 2 (by decide),pd]
 ·rw[pj,F9 1 (by decide),zi]
def dt.Core.qp {b:dt} {Q:List (List Nat)} (c:b.Core Q (-1)) {s:Int} (hs:s=1\/s=2) {r:xV} (hr:r∈b.eg s):b.a.qp r.queue (xI Q r):=by
 have hg:=c.get hs hr;have NF:=c.vf _ (fH hs hr);refine⟨by have:=c.wf.tozo.short hg;omega,?_⟩;rw[fk ⟨NF.1,by rw[c.wf.ql];exact NF.2⟩,zJ (c.wf.q _ _ hg)];exact zVq (c.wf.sg _ _ hg)
def xCk (i:Ig) (h:Sw.du i):y8b i:=by
 obtain⟨Q,c,ht,hL⟩:i.b.fy i.L:=h;unfold y8b fp ez Qf Qg dS uY qN QL qA kQ dI;refine⟨1,rfl,trivial,λ_ _=>Cv.du.mk (λe=>absurd e Z8) λ_=>⟨⟨i.b,i.dp⟩,rn (jh ⟨rfl,c.small,λ_ _=>Cv.du.mk (λe=> ?_) (λe=> ?_)⟩)⟩⟩
 ·have e:jP 1 (i.b.eg 1) i.dp=au:=by simpa using e
  have:=c.Km (.inl rfl) e;rw[<- hL]at this;refine⟨(),iH ⟨rfl,?_,trivial⟩⟩;show aa uA (qy i.L 1 i.dp)=[];rw[this];rfl
 ·have e:jP 1 (i.b.eg 1) i.dp=ar:=by simpa using e
  obtain⟨r,hr,hp,hm,ha⟩:=c.Gu (.inl rfl) e;rw[<- hL]at ha;have iq:=(ju.1 hr).1;refine⟨⟨oM,by rw[iz];exact Int.ofNat_lt.2 iq⟩,r.dp,r.queue,kf hr (by simp[zC]) rfl,⟨i.b,1,r,xI Q r⟩,iH (jh ⟨rfl,c.qp (.inl rfl) hm,λ_ _=>⟨(),rfl,?_,trivial⟩⟩)⟩;show aa uA (qy i.L 1 i.dp)=_;rw[ha,EO.oI,dt.iv,dw.gn];simp only[xi];rfl
def yZk:Sw.ok Tryz.prog 237:=ix mixed (dz I0 (dz XY (dz zVe fx))) 0 (λ_=>[]) (λ_=>[]) [0] Tryz.func237 xCk
def xBu (i:Ig) (h:Sv.du i):y6c i:=by
 obtain⟨Q,c,ht,hL⟩:i.b.fy i.L:=h;unfold y6c fp ez Qf Qg dR gC qN QL x9 kQ dI;refine⟨2,rfl,trivial,λ_ _=>Cv.du.mk (λe=>absurd e Z8) λ_=>⟨⟨i.b,i.dp⟩,rn (jh ⟨rfl,c.small,λ_ _=>Cv.du.mk (λe=> ?_) (λe=> ?_)⟩)⟩⟩
 ·have e:jP 2 (i.b.eg 2) i.dp=au:=by simpa using e
  have:=c.Km (.inr rfl) e;rw[<- hL]at this;refine⟨(),iH ⟨rfl,?_,trivial⟩⟩;show aa uA (qy i.L 2 i.dp)=[];rw[this];rfl
 ·have e:jP 2 (i.b.eg 2) i.dp=ar:=by simpa using e
  obtain⟨r,hr,hp,hm,ha⟩:=c.Gu (.inr rfl) e;rw[<- hL]at ha;have iq:=(ju.1 hr).1;refine⟨⟨oM,by rw[iz];exact Int.ofNat_lt.2 iq⟩,r.dp,r.queue,kf hr (by simp[zC]) rfl,⟨i.b,2,r,xI Q r⟩,iH (jh ⟨rfl,c.qp (.inr rfl) hm,λ_ _=>⟨(),rfl,?_,trivial⟩⟩)⟩;show aa uA (qy i.L 2 i.dp)=_;rw[ha,EO.oI,dt.iv,dw.gn];simp only[xi];rfl
def yZp:Sv.ok Tryz.prog 237:=ix mixed (dz I0 (dz XA (dz zVe fx))) 0 (λ_=>[]) (λ_=>[]) [0] Tryz.func237 xBu
def y6r:atC.ok Tryz.prog 237:=λj=>match j with
 |⟨b,L,au,p⟩=>yZk ⟨b,L,au,p⟩
 |⟨b,L,ar,p⟩=>yZp ⟨b,L,ar,p⟩
def GK (p:Int) (l:List zE):Lv:=⟨p,(l.map (·.dq)).sum,l.length⟩
def rI:∀{l:List zE} {v:Lv} {vs:List Lv},qg l=v::vs->∃o r,l=o::r/\o.dp=v.dp
 |[],v,vs,h=>by cases h
 |o::r,v,vs,h=>by
  refine⟨o,r,rfl,?_⟩;rw[qg]at h;split at h
  ·cases h;rfl
  ·split at h
   ·rename_i e;cases h;exact e.symm
   ·cases h;rfl
def z0b {p:Int}:∀{l:List zE} {m:List zE},l≠[]->(∀o∈l,o.dp=p)->(∀o r,m=o::r->o.dp≠p)->qg (l++m)=GK p l::qg m
 |[],m,h,_,_=>absurd rfl h
 |[o],m,_,h,hm=>by
  have e:=h o jg;rw[List.singleton_append,qg];split
  ·rename_i g;simp[GK,e,g]
  ·rename_i v vs g;obtain⟨o',r,e1,e2⟩:=rI g;have:=hm o' r e1;rw[dx (by omega)];simp[GK,e,g]
 |o::o'::l,m,_,h,hm=>by
  have e:=h o jg;have ih:=z0b (l:=o'::l) (m:=m) (by simp) (λx hx=>h x (jx _ hx)) hm;rw[tu,qg,ih];dsimp only;rw[fk (show(GK p (o'::l)).dp=o.dp from e.symm)];simp only[GK,iT,oR,iY];rfl
def z6t {f:xV->List zE}:∀{R:List xV},(∀r∈R,f r≠[]/\∀o∈f r,o.dp=r.dp)->R.Pairwise (λr r'=>r.dp≠r'.dp)->qg (R.flatMap f)=R.map λr=>GK r.dp (f r)
 |[],_,_=>rfl
 |r::R,h,hp=>by
  rw[Ew]at hp;have ih:=z6t (R:=R) (λx hx=>h x (jx _ hx)) hp.2;rw[xu,z0b (h r jg).1 (h r jg).2,ih,iT];intro o l e;cases R with
  |nil=>cases e
  |cons r' R'=>
   rw[xu]at e;obtain⟨h1,h2⟩:=h r' (jx _ jg);cases hf:f r' with
   |nil=>exact absurd hf h1
   |cons x y=>
    rw[hf,tu]at e;cases e;rw[h2 o (by rw[hf];exact jg)];exact(hp.1 r' jg).symm
def zXp {b:dt} {Q:List (List Nat)} {s:Int} (hs:s=1\/s=2):(b.flat Q).filter (λo=>decide (o.side=s))=b.iy Q s:=by
 have h1:∀s',(b.iy Q s').filter (λo=>decide (o.side=s))=if s'=s then b.iy Q s' else[]:=by
  intro s';split
  ·rename_i e;rw[KY];intro o ho;rw[(m9 ho).1,e];simp
  ·rename_i e;rw[Pp];intro o ho;rw[(m9 ho).1];simp[e]
 rw[dt.flat,Jj,h1,h1];rcases hs with rfl|rfl
 ·simp
 ·simp
def dt.Core.neL {b:dt} {Q:List (List Nat)} (c:b.Core Q (-1)) {s:Int} (hs:s=1\/s=2) {r:xV} (hr:r∈b.eg s):xI Q r≠[]:=c.ne s hs r hr λe=>by have:=c.vf _ (fH hs hr);omega
def dt.Core.SF {b:dt} {Q:List (List Nat)} (c:b.Core Q (-1)) {s:Int} (hs:s=1\/s=2) {r:xV} (hr:r∈b.eg s):b.told r=GK r.dp (b.iv Q s r):=by
 have hg:=c.get hs hr;have NF:=c.vf _ (fH hs hr);have hq:=c.wf.q _ _ hg;have HN:=c.wf.ql;rw[dt.told,Ty NF.1 hq,GK,dt.iv,xi,iz];rfl
def dt.Core.lad {b:dt} {Q:List (List Nat)} (c:b.Core Q (-1)) {s:Int} (hs:s=1\/s=2):x7 (b.flat Q) s=(b.eg s).map b.told:=by
 rw[x7,zXp hs,dt.iy,z6t]
 ·exact vy λr hr=>(c.SF hs hr).symm
 ·intro r hr;refine⟨λe=>c.neL hs hr (List.map_eq_nil_iff.1 e),λo ho=>(qS ho).2⟩
 ·exact(c.uo s hs).imp λh=>Om h
def dt.Core.gm {b:dt} {Q:List (List Nat)} (c:b.Core Q (-1)) {s:Int} (hs:s=1\/s=2):b.iA (b.eg s)=Sx.gm (b.flat Q) s:=by
 rw[Sx.gm,c.lad hs];cases b.eg s<;>rfl
def dt.Core.EJ {b:dt} {Q:List (List Nat)} (c:b.Core Q (-1)):b.nw:=by
 intro q hq;obtain⟨n,hn⟩:=AB.1 hq;have iq:=(ju.1 hn).1;rw[c.wf.ql]at iq;obtain⟨l,hl⟩:=z6 iq;have:=c.wf.q n l hl;rw[hn]at this;cases this;have:=c.wf.tozo.short hl;constructor<;>dsimp only<;>omega
def yS (L:List zE):iS:=(fq.Dc (gm L 1)).xz (gm L 2)
def dt.fy.top {b:dt} {L:List zE} (h:b.fy L):b.top=yS L:=by
 obtain⟨Q,c,ht,rfl⟩:=h;rw[dt.top,yS,<- c.gm (.inl rfl),<- c.gm (.inr rfl)];rfl
def dt.fy.EJ {b:dt} {L:List zE} (h:b.fy L):b.nw:=by
 obtain⟨Q,c,ht,rfl⟩:=h;exact c.EJ
structure Kr (o:zE):Prop where
 s:o.side=1\/o.side=2
 q:1<=o.dq/\o.dq<=1000000
def dt.fy.oI {b:dt} {L:List zE} (h:b.fy L):(∀o∈L,Kr o)/\(L.map (·.id)).Nodup/\L.length<=250:=by
 obtain⟨Q,c,ht,rfl⟩:=h;refine⟨λo ho=> ?_,c.ids,?_⟩
 ·obtain⟨hs,r,hr,ho,hp⟩:=rY ho;refine⟨hs,?_⟩;obtain⟨k,hk,e⟩:=oe.1 ho;obtain⟨_,⟨_,_,h2⟩,_⟩:=c.wf.tozo.mem (c.get hs hr) hk;have eq:o.dq=(b.a.fg k).dq:=by rw[<- e];rfl
  rw[eq];exact⟨c.wf.pos _ _ (c.get hs hr) _ hk,h2.q2⟩
 ·have ry:(((b.eg 1).flatMap (xI Q)++(b.eg 2).flatMap (xI Q))).Nodup:=by
   have hm:((b.flat Q).map (·.id))=((b.eg 1).flatMap (xI Q)++(b.eg 2).flatMap (xI Q)).map λk=>(b.a.fg k).id:=by
    rw[dt.flat,jz,jz,dt.iy,dt.iy,IW,IW,IW,IW];congr 1
    ·exact xK λr _=>by rw[dt.iv,xi];rfl
    ·exact xK λr _=>by rw[dt.iv,xi];rfl
   have:=c.ids;rw[hm]at this;exact List.Pairwise.of_map _ (λa b vc e=>vc (by rw[e])) this
  have hl:(b.flat Q).length=((b.eg 1).flatMap (xI Q)++(b.eg 2).flatMap (xI Q)).length:=by
   rw[dt.flat,iQ,iQ,dt.iy,dt.iy,Nm,Nm,Nm,Nm];congr 1
   ·congr 1;exact vy λr _=>by rw[dt.iv,iz]
   ·congr 1;exact vy λr _=>by rw[dt.iv,iz]
  rw[hl];refine Yh 250 ry λk hk=> ?_
  rcases qq.1 hk with hk|hk
  ·obtain⟨r,hr,hk⟩:=yg.1 hk;exact(c.wf.tozo.mem (c.get (.inl rfl) hr) hk).1
  ·obtain⟨r,hr,hk⟩:=yg.1 hk;exact(c.wf.tozo.mem (c.get (.inr rfl) hr) hk).1
def dt.fy.fit {b:dt} {L:List zE} (h:b.fy L):b.fit:=by
 obtain⟨Q,c,ht,rfl⟩:=h;have hs:=c.small;have h1:=c.ql;have h2:=c.wf.ql;have PY:=c.qb;rw[dt.qs,iQ,iQ,iz,iz]at h1;refine⟨⟨hs.1.1,λhf=> ?_,λq hq=> ?_⟩,oM,oM,oM,oM⟩
 ·obtain⟨k,_,hk,DW,G',_⟩:=c.wf.tozo.unused hf;exact⟨_,mc DW,G'⟩
 ·obtain⟨n,hn⟩:=AB.1 hq;have iq:=(ju.1 hn).1;rw[c.wf.ql]at iq;obtain⟨l,hl⟩:=z6 iq;have:=c.wf.q n l hl;rw[hn]at this;cases this;dsimp only;rcases vN l with e|⟨y,j,e,e2⟩
  ·exact .inl ((sU l).2 e)
  ·rw[e2];have:=(c.wf.tozo.mem hl (k:=j) (by rw[e];simp)).1;rw[c.wf.len];exact .inr ⟨oM,oM⟩
def su:Nat->List (List zE)->List (Int×Int)
 |_,[]=>[]
 |k,L::B=>L.map (λo=>(o.id,(k:Int)))++su (k+1) B
def vt:∀{B:List (List zE)} {n:Nat} {x:Int×Int},x∈su n B↔∃(k:Nat) (L:List zE),B[k]? =ba L/\x.1∈L.map (·.id)/\x.2=((n+k:Nat):Int)
 |[],n,x=>by simp[su]
 |L::B,n,x=>by
  rw[su,qq,vt (B:=B)];constructor
  ·rintro(h|⟨k,L',h1,h2,h3⟩)
   ·obtain⟨o,ho,rfl⟩:=oe.1 h;exact⟨0,L,rfl,pn (f:=(·.id)) ho,rfl⟩
   ·exact⟨k+1,L',h1,h2,by rw[h3];omega⟩
  ·rintro⟨k,L',h1,h2,h3⟩;cases k with
   |zero=>
    cases h1;obtain⟨o,ho,e⟩:=oe.1 h2;exact .inl (oe.2 ⟨o,ho,Prod.ext e h3.symm⟩)
   |succ k=>exact .inr ⟨k,L',h1,h2,by rw[h3];omega⟩
def TX:∀{B:List (List zE)} (n k:Nat),k<B.length->∃rest,∀X:List zE,(su n (B.set k X)).Perm (X.map (λo=>(o.id,((n+k:Nat):Int)))++rest)
 |[],n,k,h=>absurd h (by simp)
 |L::B,n,0,h=>⟨su (n+1) B,λX=> .refl _⟩
 |L::B,n,k+1,h=>by
  obtain⟨rest,hr⟩:=TX (B:=B) (n+1) k (by simpa using h);refine⟨L.map (λo=>(o.id,(n:Int)))++rest,λX=> ?_⟩;rw[Jl,su];refine((hr X).append_left _).trans ?_;rw[<- km,<- km,show n+1+k=n+(k+1)by omega];exact Bh.append_right _
structure ia.fy (s:ia) (p:fj) (B:List (List zE)):Prop where
 ep:s.p=p
 bl:s.fc.length=B.length
 bk:∀(k:Nat) (b:dt) (L:List zE),s.fc[k]? =ba b->B[k]? =ba L->b.fy L
 wh:s.wh.Perm (su 0 B)
 ids:((su 0 B).map (·.1)).Nodup
def dZ (B:List (List zE)) (id:Int):Option Nat:=B.findIdx? λL=>kW L id
def xR {B:List (List zE)} {id:Int} {k:Nat} (h:dZ B id=ba k):∃L,B[k]? =ba L/\kW L id=ar:=by
 rw[dZ,Nr]at h;obtain⟨h1,h2,_⟩:=h;exact⟨_,xl h1,h2⟩
def zPv {B:List (List zE)} {id:Int} (h:dZ B id=bc):∀L∈B,kW L id=au:=by
 rw[dZ,Ps]at h;exact h
def Xj:∀{l:List (Int×Int)},(l.map (·.1)).Nodup->∀{k x:Int},(k,x)∈l->jW l k=ba x
 |[],_,k,x,hx=>by cases hx
 |p::l,h,k,x,hx=>by
  rw[iT,ve]at h;rw[jW,KR];rcases ku.1 hx with ex|hx
  ·subst ex;simp
  ·have:p.1≠k:=by rintro e;exact h.1 (e▸pn (f:=(·.1)) hx)
   rw[jq this];exact Xj h.2 hx
def zXi {l:List (Int×Int)} {k:Int} (h:k∉l.map (·.1)):jW l k=bc:=by
 rw[jW,Option.map_eq_none_iff,ag];intro x hx e;have e:x.1=k:=by simpa using e
 exact h (e▸pn (f:=(·.1)) hx)
def ia.fy.keys {s:ia} {p:fj} {B:List (List zE)} (h:s.fy p B):(s.wh.map (·.1)).Nodup:=(h.wh.map (·.1)).nodup_iff.2 h.ids
def ia.fy.at_ {s:ia} {p:fj} {B:List (List zE)} (h:s.fy p B) (id:Int):jW s.wh id=(dZ B id).map (λk:Nat=>(k:Int)):=by
 cases hi:dZ B id with
 |none=>
  refine zXi λhm=> ?_
  rw[(h.wh.map (·.1)).mem_iff]at hm
  obtain⟨x,hx,rfl⟩:=oe.1 hm;obtain⟨k,L,h1,h2,_⟩:=vt.1 hx;have:=zPv hi L (mc h1);rw[iG.2 h2]at this;cases this
 |some k=>
  obtain⟨L,h1,h2⟩:=xR hi;refine Xj h.keys (h.wh.mem_iff.2 (vt.2 ⟨k,L,h1,iG.1 h2,by simp⟩))
def Yz {B:List (List zE)} (h:((su 0 B).map (·.1)).Nodup) {id:Int} {k j:Nat} {L M:List zE} (hk:B[k]? =ba L) (hj:B[j]? =ba M) (h1:id∈L.map (·.id)) (h2:id∈M.map (·.id)):k=j:=by
 have a:=vt (n:=0) (x:=(id,(k:Int)))|>.2 ⟨k,L,hk,h1,by simp⟩
 have b:=vt (n:=0) (x:=(id,(j:Int)))|>.2 ⟨j,M,hj,h2,by simp⟩
 have:=OJ h a b;omega
def yZ (B:List (List zE)) (id q:Int):List (List zE)×Int:=match dZ B id with
 |none=>(B,26)
 |some k=>(B.set k (x4 (B.getD k []) id q).1,(x4 (B.getD k []) id q).2)
def Yu {L:List zE} (h:(L.map (·.id)).Nodup) (id q:Int):((x4 L id q).1.map (·.id)=L.map (·.id)/\kW (x4 L id q).1 id=kW L id)\/((x4 L id q).1=L.filter (λo=> !decide (o.id=id))/\kW (x4 L id q).1 id=au):=by
 rw[x4];by_cases h1:kW L id=au
 ·rw[fk h1];exact .inl ⟨rfl,rfl⟩
 have h1:kW L id=ar:=by simpa using h1
 rw[dx (by rw[h1];decide)];by_cases h2:q<1\/(cT L id).dq<q
 ·rw[fk h2];exact .inl ⟨rfl,rfl⟩
 rw[dx h2];dsimp only;by_cases h3:(cT L id).dq=q
 ·refine .inr ?_;have e:yU L id q=L.filter λo=> !decide (o.id=id):=by rw[<- h3];exact YP h h1
  refine⟨e,?_⟩;rw[e,kW,KW];intro o ho;rw[qk]at ho;simpa using ho.2
 ·refine .inl ?_;have hm:(yU L id q).map (·.id)=L.map (·.id):=by
   have:yU L id q=L.map λo=>if o.id=id then{o with dq:=o.dq-q}else o:=by
    rw[yU,<- List.filterMap_eq_map];refine u0 λo ho=> ?_
    simp only[cn];by_cases e:o.id=id
    ·have hg:=gY h ho;rw[e]at hg;rw[fk e,fk e,dx (λe2=>h3 (by rw[hg];exact e2))]
    ·rw[dx e,dx e]
   rw[this,xi];refine vy λo _=> ?_
   simp only[cn];split<;>rfl
  refine⟨hm,?_⟩;rw[Bool.eq_iff_iff,iG,iG,hm]
def yEl:∀{l:List (Int×Int)} {k:Int},(l.map (·.1)).Nodup->DK k l=l.filter λx=> !decide (x.1=k)
 |[],k,_=>rfl
 |(a,b)::l,k,h=>by
  rw[iT,ve]at h;rw[DK];by_cases e:k=a
  ·subst e;rw[fk rfl,Jq (by simp)];symm;rw[KY];intro x hx;have:x.1≠k:=λe=>h.1 (e▸pn (f:=(·.1)) hx)
   simp[this]
  ·rw[dx e,Jr (by simp[Ne.symm e]),yEl h.2]
def z6h:∀{l:List (Int×Int)} {k x:Int},k∉l.map (·.1)->dV k x l=l++[(k,x)]
 |[],k,x,_=>rfl
 |p::l,k,x,h=>by
  rw[iT,ku,not_or]at h;rw[dV,dx h.1,z6h h.2];rfl
def kL {α:Type} {l:List α} {k:Nat} {x:α} (h:l[k]? =ba x):l.set k x=l:=by
 apply Hz;intro i;rw[GW];split
 ·rename_i e;subst e;rw[fk (ju.1 h).1,h]
 ·rfl
def ia.fy.set {s:ia} {p:fj} {B:List (List zE)} (h:s.fy p B) {k:Nat} {L':List zE} {b':dt} (hb:b'.fy L') (hk:k<B.length) {wh':List (Int×Int)} (hw:wh'.Perm (su 0 (B.set k L'))) (hi:((su 0 (B.set k L')).map (·.1)).Nodup):({s with fc:=s.fc.set k b',wh:=wh'}:ia).fy p (B.set k L'):=by
 refine⟨h.ep,by simpa using h.bl,λj b L h1 h2=> ?_,hw,hi⟩;by_cases e:k=j
 ·subst e;have h1:(s.fc.set k b')[k]? =ba b:=h1;rw[uM (by rw[h.bl];exact hk)]at h1;rw[uM hk]at h2;cases h1;cases h2;exact hb
 ·have h1:(s.fc.set k b')[j]? =ba b:=h1;rw[h9 e]at h1 h2;exact h.bk j b L h1 h2
def ia.fy.take {s:ia} {p:fj} {B:List (List zE)} (h:s.fy p B) {id q:Int} {k:Nat} (hi:dZ B id=ba k) {L:List zE} (hL:B[k]? =ba L) (hn:(L.map (·.id)).Nodup) {b':dt} (hb:b'.fy (x4 L id q).1):
 ({s with fc:=s.fc.set k b',wh:=if kW (x4 L id q).1 id=ar then s.wh else DK id s.wh}:ia).fy p (yZ B id q).1:=by
 have hk:=(ju.1 hL).1;have ht:(yZ B id q).1=B.set k (x4 L id q).1:=by simp only[yZ,hi,zJ hL]
 obtain⟨L2,e1,hh⟩:=xR hi;rw[hL]at e1;cases e1;obtain⟨rest,hr⟩:=TX (B:=B) 0 k hk;have D0:=hr L;rw[kL hL]at D0;rw[ht];rcases Yu hn id q with⟨e1,e2⟩|⟨e1,e2⟩
 ·have hm:∀X Y:List zE,X.map (·.id)=Y.map (·.id)->X.map (λo=>(o.id,((0+k:Nat):Int)))=Y.map (λo=>(o.id,((0+k:Nat):Int))):=by
   intro X Y e;have:=congrArg (aa λi:Int=>(i,((0+k:Nat):Int))) e;rw[xi,xi]at this;exact this
  have hp:(su 0 (B.set k (x4 L id q).1)).Perm (su 0 B):=by
   refine(hr _).trans ?_;rw[hm _ _ e1];exact D0.symm
  rw[e2,hh,fk rfl];exact h.set hb hk (h.wh.trans hp.symm) ((hp.map (·.1)).nodup_iff.2 h.ids)
 ·rw[e2,dx (by decide)];have BJ:∀x∈rest,x.1≠id:=by
   intro x hx e;have ry:=(D0.map (·.1)).nodup_iff.1 h.ids
   rw[jz,xi]at ry;have h1:id∈L.map ((·.1)∘λo:zE=>(o.id,((0+k:Nat):Int))):=iG.1 hh
   exact(AA.1 ry).2.2 id h1 x.1 (pn (f:=(·.1)) hx) e.symm
  have hp:(su 0 (B.set k (x4 L id q).1)).Perm ((su 0 B).filter λx=> !decide (x.1=id)):=by
   refine(hr _).trans (.trans ?_ (D0.filter _).symm);rw[e1,Jj,List.filter_map];have:rest.filter (λx=> !decide (x.1=id))=rest:=by
    rw[KY];intro x hx;simp[BJ x hx]
   rw[this];exact .refl _
  refine h.set hb hk ?_ ((hp.map (·.1)).nodup_iff.2 (h.ids.sublist (List.Sublist.map _ HC)))
  rw[yEl h.keys];exact(h.wh.filter _).trans hp.symm
def lZ (p:fj) (B:List (List zE)) (inst id:Int) (s dp q:Int):List (List zE)×Int:=
 if inst<0\/B.length<=inst then(B,20)else if(dZ B id).isSome=ar then(B,25)else if 250<=(su 0 B).length then(B,13)else if p.dp inst dp≠0 then(B,p.dp inst dp)
 else(B.set inst.toNat (lS (B.getD inst.toNat []) s id dp q).1,(lS (B.getD inst.toNat []) s id dp q).2)
def Uw (L:List zE) (s id p q:Int):((Cf L s id p q).map (·.id)).Perm (id::L.map (·.id)):=by
 have:∀X:List zE,((X.takeWhile (before s p)++⟨id,s,p,q,fG L s p⟩::X.dropWhile (before s p)).map (·.id)).Perm (id::X.map (·.id)):=by
  intro X
  conv=>rhs;rw[<- We (p:=before s p) (l:=X)]
  rw[jz,iT,jz];exact ni
 rw[Cf];split
 ·refine(this _).trans ?_;rw[yDn]
 ·exact this _
def ia.fy.add {s:ia} {p:fj} {B:List (List zE)} (h:s.fy p B) (inst id:Int) (sd:Bool) (dp q:Int):
 (ia.iJ ⟨s,inst,id,sd,dp,q⟩).1.fy p (lZ p B inst id (zA sd) dp q).1/\(ia.iJ ⟨s,inst,id,sd,dp,q⟩).2=(lZ p B inst id (zA sd) dp q).2:=by
 have yt:zA sd=1\/zA sd=2:=by cases sd;exact .inl rfl;exact .inr rfl
 rw[ia.iJ,lZ];dsimp only;rw[h.bl,h.at_,h.wh.length_eq,show s.p.dp inst dp=p.dp inst dp by rw[h.ep],Option.isSome_map];by_cases c1:inst<0\/(B.length:Int)<=inst
 ·rw[fk c1,fk c1];exact⟨h,rfl⟩
 rw[dx c1,dx c1];by_cases c2:(dZ B id).isSome=ar
 ·rw[fk c2,fk c2];exact⟨h,rfl⟩
 rw[dx c2,dx c2];by_cases c3:250<=(su 0 B).length
 ·rw[fk c3,fk c3];exact⟨h,rfl⟩
 rw[dx c3,dx c3];by_cases c4:p.dp inst dp≠0
 ·rw[fk c4,fk c4];exact⟨h,rfl⟩
 rw[dx c4,dx c4];obtain⟨k,hk⟩:∃k:Nat,inst=k:=⟨inst.toNat,oM⟩
 subst hk;rw[ml];have rk:k<B.length:=by omega
 obtain⟨b,hb⟩:=z6 (l:=s.fc) (i:=k) (by rw[h.bl];exact rk);obtain⟨L,hL⟩:=z6 (l:=B) (i:=k) rk;have hba:s.AY k=b:=by rw[ia.AY,ml];exact zJ hb
 rw[hba,zJ hL];obtain⟨r1,r2⟩:=(h.bk k b L hb hL).add yt id dp q;refine⟨?_,r2⟩;rw[r2];obtain⟨rest,hr⟩:=TX (B:=B) 0 k rk;have D0:=hr L;rw[kL hL]at D0;have S9:(lS L (zA sd) id dp q).2≠0/\(lS L (zA sd) id dp q).1=L\/(lS L (zA sd) id dp q).2=0/\(lS L (zA sd) id dp q).1=Cf L (zA sd) id dp q:=by
  rw[lS]
  repeat' split
  ·exact .inl ⟨by simp,rfl⟩
  ·exact .inl ⟨by simp,rfl⟩
  ·exact .inl ⟨by simp,rfl⟩
  ·exact .inr ⟨rfl,rfl⟩
 rcases S9 with⟨e1,e2⟩|⟨e1,e2⟩
 ·rw[dx e1];refine h.set r1 rk ?_ ?_
  ·rw[e2,kL hL];exact h.wh
  ·rw[e2,kL hL];exact h.ids
 ·rw[fk e1];have HR:id∉s.wh.map (·.1):=by
   intro hm;obtain⟨x,hx,rfl⟩:=oe.1 hm;have:=Xj h.keys hx;rw[h.at_]at this;cases hq:dZ B x.1 with
   |none=>rw[hq]at this;cases this
   |some j=>rw[hq]at c2;exact c2 rfl
  have hp:(su 0 (B.set k (lS L (zA sd) id dp q).1)).Perm ((id,(k:Int))::su 0 B):=by
   refine(hr _).trans (.trans ?_ (D0.symm.cons _));rw[e2,<- tu];refine co _ ?_;have:=(Uw L (zA sd) id dp q).map λi:Int=>(i,(k:Int))
   rw[xi,iT,xi]at this;rw[oC];exact this
  refine h.set r1 rk ?_ ((hp.map (·.1)).nodup_iff.2 (ve.2 ⟨?_,h.ids⟩))
  ·rw[z6h HR];exact(Pv _ _).trans ((h.wh.cons _).trans hp.symm)
  ·rw[<- (h.wh.map (·.1)).mem_iff];exact HR
def Xe:∀(n k:Nat),su k (ab n [])=[]
 |0,_=>rfl
 |n+1,k=>by rw[K0,su,Xe];rfl
def z8v (p:fj):(nD p).fy p (ab p.count []):=by
 refine⟨rfl,by simp[nD],λk b L h1 h2=> ?_,?_,?_⟩
 ·have e1:b=ou:=K2 (mc (show(ab p.count ou)[k]? =ba b from h1));have e2:L=[]:=K2 (mc h2);rw[e1,e2];exact yGl
 ·rw[Xe];exact .refl _
 ·rw[Xe];exact ak
def yXb (s:Bool):gx:=gh Ic (λi=>[.nm 0 0,zB (zA s)]) (λi=>[yE i.b]) (λi=>i.b.fy i.L) (λ_=> .own 1) (λi=>[yE i.b,.own 177 3 ((x7 i.L (zA s)).map my)])
def J4:gx:=yXb au
def J3:gx:=yXb ar
def y8i (s:Bool) (i:Ic):List ib:=[{ι:=Nat,dv:=λj=>[(5,.own 0),(19,zB j)],rows:=λj=>[.own 177 3 (((x7 i.L (zA s)).take j).map my)]}]
structure BkT where
 b:dt
 L:List zE
 s:Bool
def aam:gx:=gh BkT (λi=>[.nm 0 0,zB (zA i.s)]) (λi=>[yE i.b]) (λi=>i.b.fy i.L) (λ_=> .own 1) (λi=>[yE i.b,.own 177 3 ((x7 i.L (zA i.s)).map my)])
@[reducible] def yJf (s:ia):List fw:=[x5 s 0,x5 s 1,x5 s 2,x5 s 3,x5 s 4]
def FQ:gx:=gh ia (λ_=>[.nm 0 0]) (λs=>yJf s) ia.nw (λs=> .own 5) (λs=>yJf s++[.own 122 6 (s.fm.map zY)])
structure A9 where
 s:ia
 p:fj
 B:List (List zE)
 id:Int
 q:Int
def FV:gx where
 ι:=A9
 pat:=λi=>[.nm 0 0,zB i.id,zB i.q]
 pre:=λi=>[zD i.s]
 du:=λi=>i.s.fy i.p i.B/\i.B.length<=1000
 alts:=λi=>[{o:=ia,res:=λ_=>zB (yZ i.B i.id i.q).2,post:=λs=>[zD s],rel:=λs=>s.fy i.p (yZ i.B i.id i.q).1}]
def zW (B:List (List zE)) (id:Int):Int×zE×Bool:=match dZ B id with
 |none=>(0,y0s,au)
 |some k=>(k,cT (B.getD k []) id,ar)
def FW:gx:=gh A9 (λi=>[.nm 0 0,zB i.id]) (λi=>[zD i.s]) (λi=>i.s.fy i.p i.B/\i.B.length<=1000) (λi=> .jm [zB (zW i.B i.id).1,Nc (zW i.B i.id).2.1,y4 (zW i.B i.id).2.2]) (λi=>[zD i.s])
end Sx
