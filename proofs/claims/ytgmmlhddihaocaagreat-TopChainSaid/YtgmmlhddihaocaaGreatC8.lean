/- Texts of ours. No condition. -/
import Derived.Test.YtgmmlhddihaocaaGreatC7
set_option linter.all false
open List renaming map->aa,replicate->ab,take->ac,getElem?_modify->ae,pairwise_append->af,length_erase_of_mem->ag,getElem?_replicate->aj,filter_eq_nil_iff->ak,map_singleton->am,range->ao,drop->ap
open Sx.ff renaming qq->aq,cells->ar,own->au,ja->av,map->aw
open Bool renaming true->ax,false->ay
open Option renaming some->az,none->ba
open Go.Builtin renaming zeroCells->bc,firstCells->be,append_->bg
open Go.IntKind renaming i64->bo
open Go renaming Value->bu,World->bv,Program->bz,size_zeroCells->cd,TypeId->ce,Addr->cf
open Go.Value renaming int->cg,string->ci
open Function renaming comp->cm
open List.Perm renaming append_right->cn,append_left->co
namespace Sx
set_option maxRecDepth 100000
open Go Cv Go.Proofs
def yMc {l:List Int} {q r:Int} (h:yX l q=ax) (h0:0<=r) (h1:r<=q):yX l r=ax:=by
 obtain⟨a,b,c,d⟩:=jJ h;have e:(l.all λn=>decide (1<=n) && decide (n<=1000000))=ax:=by
  rw[Dp];intro x hx;simpa using c x hx
 rw[yX,e,lg a,lg h0,lg (show r<=l.sum by omega)];rfl
def getD_none {l:List Int} {n:Nat} (h:l[n]? =ba):l.getD n 0=0:=by rw[np,h];rfl
def YD {l:List Int} {q:Int} (h:yX l q=ax) (n:Nat):0<=l.getD n 0/\l.getD n 0<=1000000:=by
 cases hn:l[n]? with
 |none=>rw[getD_none hn];decide
 |some x=>rw[zT hn];have:=(jJ h).2.2.1 x (lr hn);omega
def yDj {l:List Int} {q:Int} (h:yX l q=ax) (n:Nat):0<=(gO l q).getD n 0/\(gO l q).getD n 0<=l.getD n 0:=by
 rw[gO,fc h];obtain⟨a,b,c,d⟩:=jJ h;cases hn:l[n]? with
 |none=>
  have:(gA l q)[n]? =ba:=by rw[List.getElem?_eq_none_iff,l5];exact List.getElem?_eq_none_iff.1 hn
  rw[getD_none hn,getD_none this];decide
 |some x=>
  rw[zT hn,zT (Wi l q n x hn)];have:=Xv l q n b (λy hy=>by have:=c y hy;omega);have:=c x (lr hn);omega
def y6x (i:Ji) (h:PN.dp i):y5k i:=by
 obtain⟨hl,hq,hle,UC⟩:i.l.length<=1000000/\gq i.q/\gq i.least/\gq i.part:=h;unfold y5k Sz wI;have no (e:¬(yX i.l i.q=ax/\0<=i.part/\i.part<=100/\1<=i.least)):BS i=[]:=by rw[BS,ej e]
 refine⟨⟨i.l,i.q⟩,rfl,rfl,⟨hl,hq⟩,λ_ _=>Cv.dp.mk (λc=> ?_) (λc=>zH (λd=> ?_) (λd=>zH (λe=> ?_) (λe=>zH (λf=> ?_) (λf=> ?_))))⟩
 ·have c:yX i.l i.q=ay:=by simpa using c
  exact⟨(),by rw[no (by rw[c];simp)];rfl,trivial⟩
 ·exact⟨(),by rw[no (by omega)];rfl,trivial⟩
 ·exact⟨(),by rw[no (by omega)];rfl,trivial⟩
 ·exact⟨(),by rw[no (by omega)];rfl,trivial⟩
 have c:yX i.l i.q=ax:=by simpa using c
 obtain⟨h1,h2,h3,h4⟩:=jJ c;have qk:=Sa c;have m0:0<=i.q*i.part:=MG h2 oM;have m1:i.q*i.part<=i.q*100:=Ub oM h2;have hr:=yMc (r:=i.q*i.part / 100) c oM oM;have es:BS i=pP i.rs:=by rw[BS,fc ⟨c,by omega,by omega,by omega⟩]
 refine⟨⟨i.q,i.part,100⟩,rfl,rfl,rfl,⟨Z9,Z9,Z9,Z9,Z9,Z9⟩,λ_ _=>⟨⟨i.l,i.q*i.part / 100⟩,rfl,rfl,⟨hl,Z9,Z9⟩,λ_ _=>⟨i.rs,rfl,rfl,?_,rfl,⟨h1,?_,?_,hle,?_⟩,λ_ _=>⟨(),by rw[es],trivial⟩⟩⟩⟩
 ·rw[ir (by dsimp only;omega)];rfl
 ·show(gO i.l (i.q*i.part / 100)).length=i.l.length;rw[gO,fc hr,l5]
 ·show gq (i.q-i.q*i.part / 100);exact⟨oM,oM⟩
 ·intro n;have a:=yDj hr n;have b:=YD c n;exact⟨a.1,a.2,b.2⟩
def yZx:PN.ok Tryz.prog 252:=gw mixed (dw SU (dw zUp (dw yBj (dw z8w fg)))) 0 (λ_=>[]) (λ_=>[]) [] Tryz.func252 y6x
def y0l (n:Nat):ab n [D.v (.int .i64 0)]=iE (ab n 0):=by simp[iE]
def zZd (n k:Nat):(ab n (0:Int)).getD k 0=0:=by
 rw[np,aj];split<;>rfl
def yGn (n t k:Nat) (x:Int):((ab n (0:Int)).set t x).getD k 0=x/\k=t\/((ab n (0:Int)).set t x).getD k 0=0:=by
 rw[np,Gv];split
 ·rename_i e;split
  ·exact .inl ⟨rfl,e.symm⟩
  ·exact .inr rfl
 ·right;rw[<- np];exact zZd n k
def y7o (i:um) (h:PU.dp i):y5y i:=by
 obtain⟨hl,hq,hle,hmo⟩:i.l.length<=1000000/\gq i.q/\gq i.least/\gq i.most:=h;unfold y5y VN l6 V6 Wg Sz wI dI;have no (e:¬(yX i.l i.q=ax/\1<=i.least/\0<=i.most)):Cr i=[]:=by rw[Cr,ej e]
 refine⟨⟨i.l,i.q⟩,rfl,rfl,⟨hl,hq⟩,λ_ _=>Cv.dp.mk (λc=> ?_) (λc=>zH (λd=> ?_) (λd=>zH (λe=> ?_) (λe=> ?_)))⟩
 ·have c:yX i.l i.q=ay:=by simpa using c
  exact⟨(),by rw[no (by rw[c];simp)];rfl,trivial⟩
 ·exact⟨(),by rw[no (by omega)];rfl,trivial⟩
 ·exact⟨(),by rw[no (by omega)];rfl,trivial⟩
 have c:yX i.l i.q=ax:=by simpa using c
 obtain⟨h1,h2,h3,h4⟩:=jJ c;have qk:=Sa c;have es:Cr i=pP i.rs:=by rw[Cr,fc ⟨c,by omega,by omega⟩]
 simp only[y4,ow,y0l];have out (hn:¬(0<=i.top/\i.top<(i.l.length:Int))):i.rs=⟨i.l,ab i.l.length 0,i.least,i.q⟩:=by rw[um.rs,ej hn]
 have ok0:ph.ok ⟨i.l,ab i.l.length 0,i.least,i.q⟩:=⟨h1,by simp,hq,hle,λn=>by
  have:=YD c n;dsimp only;rw[zZd];omega⟩
 refine⟨⟨oM,oM,oM,oM⟩,zH (λa=>zH (λb=> ?_) (λb=> ?_)) (λa=> ?_)⟩
 ·obtain⟨n,hn⟩:=z7 (l:=i.l) (i:=i.top.toNat) oM;have hf:i.first=min (min n i.most) i.q:=by rw[um.first,zT hn]
  have bn:=h3 n (lr hn);have GD:(ab i.l.length (0:Int))[i.top.toNat]? =az 0:=by rw[aj,fc (by omega)]
  have ers:i.rs=⟨i.l,(ab i.l.length 0).set i.top.toNat i.first,i.least,i.q-i.first⟩:=by rw[um.rs,fc ⟨by omega,by omega⟩]
  refine⟨⟨oM,oM⟩,n,qz hn,?_⟩;rw[RE GD,<- hf];simp only[y4,qp,Gw];refine⟨⟨oM,oM⟩,oM,⟨oM,oM⟩,i.first,qz (uW GD),?_⟩;rw[ir (x:=i.q-i.first) (by omega)];refine⟨⟨i.l,(ab i.l.length 0).set i.top.toNat i.first,i.least,i.q-i.first⟩,iM ⟨rfl,⟨h1,by simp,⟨Z9,Z9⟩,hle,λk=> ?_⟩,λ_ _=>⟨(),by rw[es,ers],trivial⟩⟩⟩;have bk:=YD c k;dsimp only;rcases yGn i.l.length i.top.toNat k i.first with⟨g,gk⟩|g
  ·rw[g,gk,zT hn];omega
  ·rw[g];omega
 ·refine⟨⟨i.l,ab i.l.length 0,i.least,i.q⟩,iM ⟨rfl,ok0,λ_ _=>⟨(),by rw[es,out (by omega)],trivial⟩⟩⟩
 ·refine⟨⟨i.l,ab i.l.length 0,i.least,i.q⟩,iM ⟨rfl,ok0,λ_ _=>⟨(),by rw[es,out (by omega)],trivial⟩⟩⟩
def y1h:PU.ok Tryz.prog 251:=gw mixed (dw SU (dw z8w fg)) 0 (λ_=>[]) (λ_=>[]) [] Tryz.func251 y7o
structure B7 where
 p:fb
 l:List zI
 q:Int
def B7.qs (i:B7):List Int:=i.l.map (·.dq)
def kI (i:B7):List Int:=if i.p.dr=1 then gO i.qs i.q else if i.p.dr=2 then Cr ⟨i.qs,iU i.l,i.p.top,i.p.least,i.q⟩else if i.p.dr=3 then BS ⟨i.qs,i.p.part,i.p.least,i.q⟩else[]
def F2:fy:=fj B7 (λi=>[nu i.p,oy 5 (i.l.map vG),zA i.q]) (λ_=>[]) (λi=>i.l.length<=1000/\gq i.q/\gq i.p.least/\gq i.p.top/\gq i.p.part) (λ_=> .own 0) (λi=>[.own 2 1 (iE (kI i))])
def y1a (i:B7):List gj:=[{ι:=Nat,du:=λj=>[(7,.own 0),(13,zA j)],rows:=λj=>[.own 2 1 (iE (i.qs.take j))]}]
def yKq (i:B7):Prop:=
 ∃(a:Nat),(↑a:Int)=0/\iE (ac a i.qs)=[]/\∃(b:Nat->Prop),∃(c:Nat->Nat),b a/\∀(d:Nat),b d->dp (decide ((↑d:Int)<(↑(aa vG i.l).length:Int))) ((0<=(↑d:Int)/\(↑d:Int)<(↑(aa vG i.l).length:Int))/\∃(e:Int),∃(f:Int),∃(g:Int),∃(h:Int),∃(j:Bool),zD (aa vG i.l) (↑d:Int).toNat 0 5=az [dI e,dI f,dI g,dI h,D.v (.bool j)]/\((iE (ac d i.qs)).length+1)*(8:Nat)<=(140737488355328:Nat)/\∃(k:Nat),(↑k:Int)=bo.wrap ((↑d:Int)+1)/\iE (ac k i.qs)=iE (ac d i.qs)++[[dI h]]/\b k/\c k<c d/\di (ar [V.d (D.v (ci (sb i.p.code))),V.own 0,V.d (dI i.p.tick),V.d (dI i.p.low),V.d (dI i.p.high),V.d (dI i.p.wide),V.d (dI i.p.dr),V.d (dI i.p.top),V.d (dI i.p.least),V.d (dI i.p.part),V.own 1] 25)/\di (av 1 (iE i.p.settle))/\di (av 1 (iE i.p.dk))) (dp (i.p.dr==1) (∃(e:BL),iE e.l=iE (ac d i.qs)/\e.q=i.q/\(wI e)/\∀(f:Unit),True->∃(g:Unit),iE (kI i)=iE (gO e.l e.q)/\True) (dp (i.p.dr==2) (∃(e:List zI),aa vG e=aa vG i.l/\e.length<=1000000/\∀(f:Unit),True->∃(g:um),iE g.l=iE (ac d i.qs)/\g.top=iU e/\g.most=i.p.top/\g.least=i.p.least/\g.q=i.q/\(g.l.length<=1000000/\((-9223372036854775808)<=g.q/\g.q<=9223372036854775807)/\((-9223372036854775808)<=g.least/\g.least<=9223372036854775807)/\(-9223372036854775808)<=g.most/\g.most<=9223372036854775807)/\∀(h:Unit),True->∃(j:Unit),iE (kI i)=iE (Cr g)/\True) (dp (i.p.dr==3) (∃(e:Ji),iE e.l=iE (ac d i.qs)/\e.part=i.p.part/\e.least=i.p.least/\e.q=i.q/\(e.l.length<=1000000/\((-9223372036854775808)<=e.q/\e.q<=9223372036854775807)/\((-9223372036854775808)<=e.least/\e.least<=9223372036854775807)/\(-9223372036854775808)<=e.part/\e.part<=9223372036854775807)/\∀(f:Unit),True->∃(g:Unit),iE (kI i)=iE (BS e)/\True) (∃(e:Unit),iE (kI i)=[]/\True))))
def yXd (i:B7) (h:F2.dp i):yKq i:=by
 obtain⟨hl,hq,hle,ta,UC⟩:i.l.length<=1000/\gq i.q/\gq i.p.least/\gq i.p.top/\gq i.p.part:=h;have Ht:i.qs.length=i.l.length:=by simp[B7.qs]
 unfold yKq wI dI;simp only[y4,ia];refine⟨0,by(first|exact rfl|exact trivial),by(first|exact rfl|exact trivial),λj=>j<=i.l.length,λj=>i.l.length-j,my _,λj hj=>zH (λc=> ?_) (λc=> ?_)⟩
 ·have oh:j<i.l.length:=by omega
  obtain⟨o,ho⟩:=z7 (l:=i.l) (i:=j) oh;have hqo:i.qs[j]? =az o.dq:=by rw[B7.qs,uq,ho];rfl
  refine⟨⟨oM,oM⟩,o.id,o.side,o.dj,o.dq,o.top,ZR ho,by rw[oe];omega,j+1,qw oM,?_,oh,Z9,gn⟩;rw[sm,hqo];simp[iE]
 have EO:j=i.l.length:=by omega
 subst EO;rw[og (l:=i.qs) (by omega)];refine Cv.dp.mk (λa=> ?_) (λa=>Cv.dp.mk (λb=> ?_) (λb=>Cv.dp.mk (λd=> ?_) (λd=> ?_)))
 ·have a:i.p.dr=1:=by simpa using a
  exact⟨⟨i.qs,i.q⟩,rfl,rfl,⟨Z9,hq⟩,λ_ _=>⟨(),by rw[kI,fc a],trivial⟩⟩
 ·have a:¬i.p.dr=1:=by simpa using a
  have b:i.p.dr=2:=by simpa using b
  exact⟨i.l,rfl,oM,λ_ _=>⟨⟨i.qs,iU i.l,i.p.top,i.p.least,i.q⟩,nr ⟨rfl,⟨Z9,hq,hle,ta⟩,λ_ _=>⟨(),by rw[kI,ej a,fc b],trivial⟩⟩⟩⟩
 ·have a:¬i.p.dr=1:=by simpa using a
  have b:¬i.p.dr=2:=by simpa using b
  have d:i.p.dr=3:=by simpa using d
  exact⟨⟨i.qs,i.p.part,i.p.least,i.q⟩,iM ⟨rfl,⟨Z9,hq,hle,UC⟩,λ_ _=>⟨(),by rw[kI,ej a,ej b,fc d],trivial⟩⟩⟩
 ·have a:¬i.p.dr=1:=by simpa using a
  have b:¬i.p.dr=2:=by simpa using b
  have d:¬i.p.dr=3:=by simpa using d
  exact⟨(),by rw[kI,ej a,ej b,ej d];rfl,trivial⟩
def yNl:F2.ok Tryz.prog 238:=gw mixed (dw yBj (dw yCu (dw y1h (dw yZx fg)))) 0 (λ_=>[]) (λi=>y1a i) [] Tryz.func238 yXd
def vV (l:List Nat) (t:Int):Int:=match l with
 |[]=>t
 |k::_=>k
def kU:List Nat->Int->Int
 |[],p=>p
 |k::l,_=>kU l k
structure RH (s:Slot) (n k:Nat) (p t:Int):Prop where
 used:s.used=ax
 no:s.n=k
 queue:s.queue=n
 ahead:s.ahead=p
 back:s.back=t
 q1:0<=s.dq
 q2:s.dq<=1000000
def xy (sl:List Slot) (n:Nat):Int->List Nat->Int->Prop
 |_,[],_=>True
 |p,k::l,t=>(∃s,sl[k]? =az s/\RH s n k p (vV l t))/\xy sl n k l t
def XA (l1 l2:List Nat) (t:Int):vV (l1++l2) t=vV l1 (vV l2 t):=by cases l1<;>rfl
def aJ:∀(l1 l2:List Nat) (p:Int),kU (l1++l2) p=kU l2 (kU l1 p)
 |[],l2,p=>rfl
 |k::l1,l2,p=>aJ l1 l2 k
def Mj {sl:List Slot} {n:Nat}:∀{l1 l2:List Nat} {p t:Int},xy sl n p (l1++l2) t↔xy sl n p l1 (vV l2 t)/\xy sl n (kU l1 p) l2 t
 |[],l2,p,t=>by simp[xy,kU]
 |k::l1,l2,p,t=>by
  rw[tv,xy,xy,XA,Mj,kU,and_assoc]
def yBo {sl:List Slot} {n k:Nat}:∀{l:List Nat} {p t:Int},xy sl n p l t->k∈l->∃s p' t',sl[k]? =az s/\RH s n k p' t'
 |j::l,p,t,h,hk=>by
  rcases mf.1 hk with rfl|hk
  ·obtain⟨⟨s,h1,h2⟩,_⟩:=h;exact⟨s,_,_,h1,h2⟩
  ·exact yBo h.2 hk
def vK {sl ON:List Slot} {n:Nat}:∀{l:List Nat} {p t:Int},(∀k∈l,ON[k]? =sl[k]?)->xy sl n p l t->xy ON n p l t
 |[],p,t,_,h=>h
 |k::l,p,t,e,⟨⟨s,h1,h2⟩,h3⟩=>⟨⟨s,by rw[e k ji];exact h1,h2⟩,vK (λj hj=>e j (jw _ hj)) h3⟩
def cC {α:Type} {l:List α} {f:α->α} {i j:Nat} (h:i≠j):(l.modify i f)[j]? =l[j]? :=by rw[ae];cases l[j]? <;>simp[h]
def lH {α:Type} {l:List α} {f:α->α} {i:Nat} {x:α} (h:l[i]? =az x):(l.modify i f)[i]? =az (f x):=by rw[ae,h];simp
def uE {α:Type} {l:List α} {x:α} {i j:Nat} (h:i≠j):(l.set i x)[j]? =l[j]? :=by rw[Gv,ej h]
def f8 {α:Type} {l:List α} {x:α} {i:Nat} (h:i<l.length):(l.set i x)[i]? =az x:=by rw[Gv,fc rfl,fc h]
def b7 {α:Type} {Q:List α} {n m:Nat} {x y:α} (h:(Q.set n x)[m]? =az y):(m=n/\y=x)\/(m≠n/\Q[m]? =az y):=by
 by_cases e:n=m
 ·subst e;have hn:n<Q.length:=by
   have:=(jl.1 h).1;simpa using this
  rw[f8 hn]at h;cases h;exact .inl ⟨rfl,rfl⟩
 ·rw[uE e]at h;exact .inr ⟨λc=>e c.symm,h⟩
def z2b {sl:List Slot} {n k:Nat} {l:List Nat} {p t:Int} (t':Int) (hk:k∉l) (h:xy sl n p (l++[k]) t):xy (sl.modify k λs=>{s with back:=t'}) n p (l++[k]) t':=by
 rw[Mj]at h ⊢;obtain⟨h1,⟨s,h2,h3⟩,_⟩:=h;refine⟨vK (λj hj=>cC (λe=>hk (e▸hj))) h1,⟨_,lH h2,?_⟩,trivial⟩;exact⟨h3.used,h3.no,h3.queue,h3.ahead,rfl,h3.q1,h3.q2⟩
def yFd {sl:List Slot} {n k:Nat} {l:List Nat} {p t:Int} (p':Int) (hk:k∉l) (h:xy sl n p (k::l) t):xy (sl.modify k λs=>{s with ahead:=p'}) n p' (k::l) t:=by
 obtain⟨⟨s,h1,h2⟩,h3⟩:=h;refine⟨⟨_,lH h1,?_⟩,vK (λj hj=>cC (λe=>hk (e▸hj))) h3⟩;exact⟨h2.used,h2.no,h2.queue,rfl,h2.back,h2.q1,h2.q2⟩
def wT (l:List Nat):l=[]\/∃(x:List Nat) (j:Nat),l=x++[j]/\∀p:Int,kU l p=(j:Int):=by
 rcases List.eq_nil_or_concat l with rfl|⟨x,j,rfl⟩
 ·exact .inl rfl
 ·exact .inr ⟨x,j,by simp,λp=>by rw[List.concat_eq_append,aJ];rfl⟩
def rA (l:List Nat):kU l (-1)= -1↔l=[]:=by
 rcases wT l with rfl|⟨x,j,rfl,e⟩
 ·simp[kU]
 ·rw[e];simp
def zTu (l:List Nat):vV l (-1)= -1↔l=[]:=by
 cases l with
 |nil=>simp[vV]
 |cons k l=>simp only[vV];constructor
            ·intro h;omega
            ·intro h;cases h
def Mt {α β:Type} {g:α->β} {f:α->α} (h:∀x,g (f x)=g x):∀(l:List α) (i:Nat),(l.modify i f).map g=l.map g
 |[],i=>by simp
 |a::l,0=>by simp[h]
 |a::l,i+1=>by rw[OE,jo,jo,Mt h l i]
def VF:∀(m:Nat) {l:List Nat},l.Nodup->(∀k∈l,k<m)->l.length<=m
 |0,[],_,_=>km 0
 |0,k::l,_,h=>absurd (h k ji) oM
 |m+1,l,hn,h=>by
  have:=VF m (hn.erase m) λk hk=>by
   have:=(hn.mem_erase_iff).1 hk;have:=h k this.2;omega
  by_cases hm:m∈l
  ·rw[ag hm]at this;omega
  ·rw[List.erase_of_not_mem hm]at this;omega
def yBq {f g:Nat->Int} {k:Nat}:∀{l:List Nat},l.Nodup->k∈l->(∀j∈l,j≠k->g j=f j)->(l.map g).sum=(l.map f).sum+(g k-f k)
 |j::l,hn,hk,h=>by
  have hn:=ze.1 hn;rw[jo,jo,qv,qv];rcases mf.1 hk with rfl|hk
  ·have:l.map g=l.map f:=ui λi hi=>h i (jw _ hi) (λe=>hn.1 (e▸hi))
   rw[this];omega
  ·have e:=h j ji (λe=>hn.1 (e▸hk));rw[yBq hn.2 hk (λi hi=>h i (jw _ hi)),e];omega
def yJr {f:Nat->Int} {m:Int}:∀{l:List Nat},(∀j∈l,0<=f j/\f j<=m)->0<=(l.map f).sum/\(l.map f).sum<=m*l.length
 |[],_=>by simp
 |j::l,h=>by
  have:=h j ji;have:=yJr (l:=l) λi hi=>h i (jw _ hi)
  rw[jo,qv,iD,Int.natCast_add,Int.mul_add];simp only[Int.natCast_one,Int.mul_one];omega
def dt.oH (a:dt) (l:List Nat):Int:=(l.map λk=>(a.ei k).dq).sum
structure dt.yf (a:dt) (Q:List (List Nat)):Prop where
 len:a.du.length=250
 ql:a.dx.length=Q.length
 q:∀(n:Nat) (l:List Nat),Q[n]? =az l->a.dx[n]? =az ⟨vV l (-1),kU l (-1),a.oH l,l.length⟩
 sg:∀(n:Nat) (l:List Nat),Q[n]? =az l->xy a.du n (-1) l (-1)
 nd:∀(n:Nat) (l:List Nat),Q[n]? =az l->l.Nodup
 us:∀(k:Nat) (s:Slot),a.du[k]? =az s->s.used=ax->∃(n:Nat) (l:List Nat),Q[n]? =az l/\k∈l
 free:a.free=((a.du.map (·.used)).countP (!·):Nat)
structure dt.Wf (a:dt) (Q:List (List Nat)):Prop extends a.yf Q where
 pos:∀(n:Nat) (l:List Nat),Q[n]? =az l->∀k∈l,1<=(a.ei k).dq
def dt.yf.mem {a:dt} {Q:List (List Nat)} (h:a.yf Q) {n k:Nat} {l:List Nat} (hl:Q[n]? =az l) (hk:k∈l):k<250/\(∃p t,RH (a.ei k) n k p t)/\a.du[k]? =az (a.ei k):=by
 obtain⟨s,p,t,h1,h2⟩:=yBo (h.sg n l hl) hk;have e:a.ei k=s:=zT h1;have gr:=(jl.1 h1).1;rw[h.len]at gr;exact⟨gr,⟨p,t,by rw[e];exact h2⟩,by rw[e];exact h1⟩
def dt.yf.one {a:dt} {Q:List (List Nat)} (h:a.yf Q) {n m k:Nat} {l l':List Nat} (hl:Q[n]? =az l) (hl':Q[m]? =az l') (hk:k∈l) (qx:k∈l'):n=m:=by
 obtain⟨_,⟨_,_,h1⟩,_⟩:=h.mem hl hk;obtain⟨_,⟨_,_,h2⟩,_⟩:=h.mem hl' qx;have:=h1.queue;have:=h2.queue;omega
def dt.yf.short {a:dt} {Q:List (List Nat)} (h:a.yf Q) {n:Nat} {l:List Nat} (hl:Q[n]? =az l):l.length<=250:=VF 250 (h.nd n l hl) λk hk=>(h.mem hl hk).1
def aR {a a':dt} {l:List Nat} (h:∀k∈l,(a'.ei k).dq=(a.ei k).dq):a'.oH l=a.oH l:=by rw[dt.oH,dt.oH,ui h]
def dt.yf.sum {a:dt} {Q:List (List Nat)} (h:a.yf Q) {n:Nat} {l:List Nat} (hl:Q[n]? =az l):0<=a.oH l/\a.oH l<=250000000:=by
 have:=yJr (f:=λk=>(a.ei k).dq) (m:=1000000) (l:=l) λj hj=>by
  obtain⟨_,⟨_,_,h1⟩,_⟩:=h.mem hl hj;exact⟨h1.q1,h1.q2⟩
 have:=h.short hl;rw[dt.oH];omega
def zVo {sl:List Slot} {n:Nat}:∀{l:List Nat} {p:Int},xy sl n p l (-1)->Nx sl (vV l (-1)) l
 |[],p,_=>rfl
 |k::l,p,⟨⟨s,h1,h2⟩,h3⟩=>by
  refine⟨rfl,(jl.1 h1).1,?_⟩;rw[zT h1,h2.back];exact zVo h3
def dt.yf.ok {a:dt} {Q:List (List Nat)} (h:a.yf Q):a.DD:=by
 refine⟨by rw[h.len];decide,λk s hk hu=> ?_⟩;obtain⟨n,l,hl,pf⟩:=h.us k s hk hu;have hQ:=(jl.1 hl).1;have Ht:=h.ql;obtain⟨l1,l2,rfl⟩:=List.append_of_mem pf;have I5:=h.sg n _ hl;have qm:=h.nd n _ hl;rw[Mj]at I5;obtain⟨_,⟨s',h1,h2⟩,_⟩:=I5;rw[hk]at h1;cases h1;have hq:=h2.queue;have hd:=zx.1 qm;have zi:=ze.1 hd.2.1;refine⟨⟨oM,oM⟩,h2.q2,?_,?_⟩
 ·rw[h2.ahead];rcases wT l1 with rfl|⟨x,j,rfl,e⟩
  ·exact .inl rfl
  ·have hj:j∈x++[j]:=by simp
   have D':=(h.mem hl (xx _ hj)).1;rw[e,h.len];refine .inr ⟨oM,oM,λe2=> ?_⟩;have:j=k:=by omega
   exact hd.2.2 j hj k ji this
 ·rw[h2.back];cases l2 with
  |nil=>exact .inl rfl
  |cons j x=>
   have D':=(h.mem hl (zg _ (jw _ ji))).1;rw[vV,h.len];refine .inr ⟨oM,oM,λe2=> ?_⟩;have:j=k:=by omega
   exact zi.1 (this▸ji)
def dt.yf.open {a:dt} {Q:List (List Nat)} (h:a.yf Q):a.ri.yf (Q++[[]]):=by
 have g:∀{n:Nat} {l:List Nat},(Q++[[]])[n]? =az l->Q[n]? =az l\/(n=Q.length/\l=[]):=by
  intro n l hl;rw[List.getElem?_append]at hl;split at hl
  ·exact .inl hl
  ·rename_i hn;have:=(jl.1 hl).1;simp only[AE]at this;have e:n-Q.length=0:=by omega
   rw[e]at hl;cases hl;exact .inr ⟨oM,rfl⟩
 refine⟨h.len,by simp[dt.ri,h.ql],λn l hl=> ?_,λn l hl=> ?_,λn l hl=> ?_,λk s hk hu=> ?_,h.free⟩
 ·rcases g hl with hl|⟨rfl,rfl⟩
  ·show(a.dx++[mS])[n]? =_;rw[EC (by have:=(jl.1 hl).1;have:=h.ql;omega)];exact h.q n l hl
  ·show(a.dx++[mS])[_]? =_;rw[<- h.ql,Cy (km _),II];rfl
 ·rcases g hl with hl|⟨rfl,rfl⟩
  ·exact h.sg n l hl
  ·trivial
 ·rcases g hl with hl|⟨rfl,rfl⟩
  ·exact h.nd n l hl
  ·exact List.nodup_nil
 ·obtain⟨n,l,hl,pf⟩:=h.us k s hk hu;exact⟨n,l,by rw[EC (jl.1 hl).1];exact hl,pf⟩
def dt.Wf.open {a:dt} {Q:List (List Nat)} (h:a.Wf Q):a.ri.Wf (Q++[[]]):=by
 refine⟨h.toyf.open,λn l hl k hk=> ?_⟩;rw[List.getElem?_append]at hl;split at hl
 ·exact h.pos n l hl k hk
 ·have:=(jl.1 hl).1;simp only[AE]at this;have e:n-Q.length=0:=by omega
  rw[e]at hl;cases hl;cases hk
def VH {sl ON:List Slot} {n:Nat}:∀{l:List Nat} {p t:Int},(∀k∈l,∀s,sl[k]? =az s->∃s',ON[k]? =az s'/\s'.used=s.used/\s'.n=s.n/\s'.queue=s.queue/\s'.ahead=s.ahead/\s'.back=s.back/\0<=s'.dq/\s'.dq<=1000000)->xy sl n p l t->xy ON n p l t
 |[],p,t,_,h=>h
 |k::l,p,t,e,⟨⟨s,h1,h2⟩,h3⟩=>by
  obtain⟨s',q0,q1,q2,q3,q4,q5,q6,q7⟩:=e k ji s h1;exact⟨⟨s',q0,⟨q1.trans h2.used,q2.trans h2.no,q3.trans h2.queue,q4.trans h2.ahead,q5.trans h2.back,q6,q7⟩⟩,VH (λj hj=>e j (jw _ hj)) h3⟩
def Vu (a:dt) (n:Int) (t:Bool) (j:Nat):(a.mc n t).ei j=if a.iw n=ax/\j=n.toNat then{a.ei j with top:=t}else a.ei j:=by
 rw[dt.mc];by_cases hu:a.iw n=ax
 ·rw[fc hu];by_cases e:j=n.toNat
  ·subst e;rw[fc ⟨hu,rfl⟩];have gr:n.toNat<a.du.length:=by
    simp only[dt.iw,kx,tw]at hu;omega
   show(a.du.modify n.toNat _).getD n.toNat iB=_;obtain⟨s,hs⟩:=z7 gr;rw[zT (lH hs),xN hs]
  ·rw[ej (λh=>e h.2)];show(a.du.modify n.toNat _).getD j iB=a.du.getD j iB;rw[np,cC (λh=>e h.symm),np]
 ·rw[ej hu,ej (λh=>hu h.1)]
def dt.Wf.top {a:dt} {Q:List (List Nat)} (h:a.Wf Q) (n:Int) (t:Bool):(a.mc n t).Wf Q:=by
 have hq:∀j,((a.mc n t).ei j).dq=(a.ei j).dq:=by
  intro j;rw[Vu];split<;>rfl
 by_cases hu:a.iw n=ax
 ·have e:a.mc n t={a with du:=a.du.modify n.toNat λs=>{s with top:=t}}:=by rw[dt.mc,fc hu]
  have hm:∀(k:Nat) (s:Slot),a.du[k]? =az s->∃s',(a.mc n t).du[k]? =az s'/\s'.used=s.used/\s'.n=s.n/\s'.queue=s.queue/\s'.ahead=s.ahead/\s'.back=s.back/\s'.dq=s.dq:=by
   intro k s hk;rw[e];by_cases ek:n.toNat=k
   ·subst ek;exact⟨_,lH hk,rfl,rfl,rfl,rfl,rfl,rfl⟩
   ·exact⟨s,by rw[cC ek];exact hk,Aa rfl⟩
  have hl:(a.mc n t).du.length=250:=by rw[e];simpa using h.len
  have KM:(a.mc n t).du.map (·.used)=a.du.map (·.used):=by rw[e];exact Mt (g:=λs:Slot=>s.used) (f:=λs:Slot=>{s with top:=t}) (λ_=>rfl) _ _
  refine⟨⟨hl,by rw[e];exact h.ql,λm l Ac=> ?_,λm l Ac=> ?_,h.nd,λk s hk hs=> ?_,by rw[KM];rw[e];exact h.free⟩,λm l Ac k hk=>by rw[hq];exact h.pos m l Ac k hk⟩
  ·rw[aR λk _=>hq k];rw[e];exact h.q m l Ac
  ·refine VH (λk hk s hs=> ?_) (h.sg m l Ac);obtain⟨s',q0,q1,q2,q3,q4,q5,q6⟩:=hm k s hs;obtain⟨_,⟨_,_,h2⟩,h3⟩:=h.mem Ac hk;rw[hs]at h3;cases h3;exact⟨s',q0,q1,q2,q3,q4,q5,by rw[q6];exact h2.q1,by rw[q6];exact h2.q2⟩
  ·have gr:=(jl.1 hk).1;rw[hl,<- h.len]at gr;obtain⟨s0,h0⟩:=z7 gr;obtain⟨s',q0,q1,_⟩:=hm k s0 h0;rw[hk]at q0;cases q0;exact h.us k s0 h0 (by rw[<- q1];exact hs)
 ·have e:a.mc n t=a:=by rw[dt.mc,ej hu]
  rw[e];exact h
def zOb {sl:List Slot} {k:Nat} {s x:Slot} (hk:sl[k]? =az s):((sl.set k x).map (·.used)).countP (!·)+(if s.used=ax then 0 else 1)=(sl.map (·.used)).countP (!·)+(if x.used=ax then 0 else 1):=by
 have gr:=(jl.1 hk).1;have e:(sl.map (·.used))[k]'(by simpa using gr)=s.used:=by
  rw[List.getElem_map,(jl.1 hk).2]
 rw[List.map_set,List.countP_set (by simpa using gr),e];have hp:s.used=ay->1<=(sl.map (·.used)).countP (!·):=by
  intro h;apply List.countP_pos_iff.2;exact⟨s.used,su (lr hk),by rw[h];rfl⟩
 generalize (sl.map (·.used)).countP (!·)=c at hp ⊢
 cases h1:s.used<;>cases h2:x.used
 all_goals
  simp only[h1,IK,Bool.not_true,oD,↓reduceIte,if_true,if_false]at hp ⊢
  try have hp:=hp trivial
  omega
def yCd {sl:List Slot}:(sl.map (·.used)).countP (!·)<=sl.length:=by
 have:=List.countP_le_length (p:=λb:Bool=> !b) (l:=sl.map (·.used))
 simpa using this
def dt.yf.unused {a:dt} {Q:List (List Nat)} (h:a.yf Q) (hf:a.free≠0):∃k:Nat,kW a.du=k/\k<250/\a.du[k]? =az (a.ei k)/\(a.ei k).used=ay/\∀(n:Nat) (l:List Nat),Q[n]? =az l->k∉l:=by
 have hx:∃s∈a.du,s.used=ay:=by
  have hp:0<(a.du.map (·.used)).countP (!·):=by have:=h.free;omega
  obtain⟨b,hb,mr⟩:=List.countP_pos_iff.1 hp;obtain⟨s,hs,rfl⟩:=pk.1 hb;exact⟨s,hs,by simpa using mr⟩
 obtain⟨s,hs,hu⟩:=hx;cases hi:a.du.findIdx? λs=> !s.used with
 |none=>
  rw[OI]at hi;have:=hi s hs;rw[hu]at this;cases this
 |some k=>
  have Nh:=hi;rw[MT]at hi;obtain⟨hk,GH,_⟩:=hi;have Dw:a.du[k]? =az a.du[k]:=vd hk;have e:=xN Dw;rw[<- e]at GH;have GH:(a.ei k).used=ay:=by simpa using GH
  refine⟨k,by rw[kW,Nh];rfl,by rw[<- h.len];exact hk,by rw[e];exact Dw,GH,λn l hl pf=> ?_⟩;obtain⟨_,⟨_,_,h2⟩,_⟩:=h.mem hl pf;have:=h2.used;rw[GH]at this;cases this
def dt.Wf.put {a:dt} {Q:List (List Nat)} (h:a.Wf Q) {n:Nat} {l:List Nat} (hl:Q[n]? =az l) (hf:a.free≠0) {id dq:Int} (top:Bool) (hq:1<=dq/\dq<=1000000):
 ∃k:Nat,kW a.du=k/\k<250/\(a.ei k).used=ay/\(∀(m:Nat) (l:List Nat),Q[m]? =az l->k∉l)/\(a.put n id dq top).Wf (Q.set n (l++[k]))/\
  (∀j,((a.put n id dq top).ei j).oX=if j=k then⟨k,id,dq,top⟩else(a.ei j).oX)/\(a.put n id dq top).free=a.free-1:=by
 obtain⟨k,hk,ra,Dw,GH,Pb⟩:=h.toyf.unused hf;have pf:=Pb n l hl;have EN:=(jl.1 hl).1;have hqn:=h.q n l hl;have EM:a.dx.getD n mS=⟨vV l (-1),kU l (-1),a.oH l,l.length⟩:=zT hqn;have B9:=h.toyf.sum hl;have M8:=h.toyf.short hl;have hlen:=h.len;have vz:=yCd (sl:=a.du);have ud:=h.free;obtain⟨x,hx⟩:∃x:Slot,x=⟨ax,k,id,dq,top,n,kU l (-1),-1⟩:=⟨_,rfl⟩
 have hS:(a.put n id dq top).du=if kU l (-1)= -1 then a.du.set k x else(a.du.set k x).modify (kU l (-1)).toNat λs=>{s with back:=k}:=by
  simp only[dt.put,ow,EM,hk,hx]
 have KR:(a.put n id dq top).dx=a.dx.set n ⟨vV (l++[k]) (-1),k,a.oH l+dq,(l.length:Int)+1⟩:=by
  simp only[dt.put,ow,EM,hk];rw[ir (by omega),ir (by omega)];congr 2;by_cases e:l=[]
  ·subst e;rfl
  ·rw[ej (λc=>e ((rA l).1 c)),XA];cases l with
   |nil=>exact absurd rfl e
   |cons y ys=>rfl
 have hF:(a.put n id dq top).free=a.free-1:=by
  simp only[dt.put];rw[ir (by omega)]
 have qd:(a.du.set k x)[k]? =az x:=f8 oM;have hlo:kU l (-1)= -1\/∃(y:List Nat) (j:Nat),l=y++[j]/\kU l (-1)=(j:Int):=by
  rcases wT l with e|⟨y,j,e,e2⟩
  ·exact .inl ((rA l).2 e)
  ·exact .inr ⟨y,j,e,e2 _⟩
 have HQ:∀j,j≠k->(kU l (-1)≠(j:Int))->(a.put n id dq top).du[j]? =a.du[j]? :=by
  intro j hj GI;rw[hS];split
  ·exact uE (λe=>hj e.symm)
  ·rcases hlo with e|⟨y,i,_,e⟩
   ·contradiction
   ·rw[cC (by omega),uE (λe=>hj e.symm)]
 have Be:(a.put n id dq top).du[k]? =az x:=by
  rw[hS];split
  ·exact qd
  ·rcases hlo with e|⟨y,i,e1,e⟩
   ·contradiction
   ·have:i≠k:=by rintro rfl;exact pf (by rw[e1];simp)
    rw[cC (by omega)];exact qd
 have rj:∀j,j≠k->((a.put n id dq top).ei j).oX=(a.ei j).oX/\((a.put n id dq top).ei j).used=(a.ei j).used/\((a.put n id dq top).ei j).dq=(a.ei j).dq:=by
  intro j hj;by_cases c:kU l (-1)=(j:Int)
  ·have e:(a.put n id dq top).du=(a.du.set k x).modify j λs=>{s with back:=k}:=by
    rw[hS,ej (by omega),c];rfl
   by_cases D':j<a.du.length
   ·obtain⟨s,hs⟩:=z7 D';have h1:(a.put n id dq top).du[j]? =az {s with back:=k}:=by rw[e];exact lH (by rw[uE (λe=>hj e.symm)];exact hs)
    rw[xN h1,xN hs];exact⟨rfl,rfl,rfl⟩
   ·have h1:(a.put n id dq top).du[j]? =ba:=tx (by rw[e];simpa using D');have h2:a.du[j]? =ba:=tx oM;rw[dt.ei,dt.ei,np,np,h1,h2];exact⟨rfl,rfl,rfl⟩
  ·have:=HQ j hj c;rw[dt.ei,dt.ei,np,np,this];exact⟨rfl,rfl,rfl⟩
 have Cl:(a.put n id dq top).ei k=x:=xN Be;have DI:∀j,((a.put n id dq top).ei j).oX=if j=k then⟨k,id,dq,top⟩else(a.ei j).oX:=by
  intro j;split
  ·rename_i e;rw[e,Cl,hx];rfl
  ·rename_i e;exact(rj j e).1
 have gQ:∀{m:Nat} {l':List Nat},(Q.set n (l++[k]))[m]? =az l'->(m=n/\l'=l++[k])\/(m≠n/\Q[m]? =az l'):=by
  intro m l' hm;exact b7 hm
 have K8:xy (a.put n id dq top).du n (-1) (l++[k]) (-1):=by
  rw[Mj];refine⟨?_,⟨x,Be,?_⟩,trivial⟩
  ·rcases wT l with e|⟨y,j,e,e2⟩
   ·subst e;trivial
   ·have h0:=h.sg n l hl;have qm:=h.nd n l hl;rw[hS,ej (by rw[e2];omega),e2,ow];rw[e]at h0 qm pf ⊢;have hd:=zx.1 qm;refine z2b (k:Int) (λhj=>hd.2.2 j hj j ji rfl) (t:= -1) ?_;exact vK (λi hi=>uE (λe=>pf (e▸hi))) h0
  ·rw[hx];exact⟨rfl,rfl,rfl,rfl,rfl,Z9,hq.2⟩
 refine⟨k,hk,ra,GH,Pb,⟨⟨?_,?_,?_,?_,?_,?_,?_⟩,?_⟩,DI,hF⟩
 ·rw[hS];split<;>simp[hlen]
 ·rw[KR];simp[h.ql]
 ·intro m l' hm;rcases gQ hm with⟨rfl,rfl⟩|⟨e,hm⟩
  ·rw[KR,f8 (by rw[h.ql];exact EN),aJ];have:(a.put m id dq top).oH (l++[k])=a.oH l+dq:=by
    rw[dt.oH,jk,MI];have e1:l.map (λk=>((a.put m id dq top).ei k).dq)=l.map λk=>(a.ei k).dq:=ui λj hj=>(rj j (λe=>pf (e▸hj))).2.2
    rw[e1];simp only[jo,Ct,qv,List.sum_nil,Cl];rw[hx,dt.oH];dsimp only;omega
   rw[this];simp[kU]
  ·rw[KR,uE (λc=>e c.symm),h.q m l' hm,aR];intro j hj;exact(rj j (λe=>Pb m l' hm (e▸hj))).2.2.symm
 ·intro m l' hm;rcases gQ hm with⟨rfl,rfl⟩|⟨e,hm⟩
  ·exact K8
  ·refine vK (λj hj=>HQ j (λe=>Pb m l' hm (e▸hj)) λc=> ?_) (h.sg m l' hm);rcases hlo with e2|⟨y,i,e1,e2⟩
   ·omega
   ·have:i=j:=by omega
    exact e (h.toyf.one hm hl hj (by rw[e1];simp[this]))
 ·intro m l' hm;rcases gQ hm with⟨rfl,rfl⟩|⟨e,hm⟩
  ·refine zx.2 ⟨h.nd m l hl,by simp,?_⟩;rintro i hi j hj rfl;rw[vf.1 hj]at hi;exact pf hi
  ·exact h.nd m l' hm
 ·intro j s hj hs;by_cases e:j=k
  ·exact⟨n,l++[k],f8 EN,by rw[e];simp⟩
  ·have hu:(a.ei j).used=ax:=by rw[<- (rj j e).2.1,xN hj];exact hs
   have D':j<a.du.length:=by
    have:=(jl.1 hj).1;rw[hS]at this;split at this<;>simpa using this
   obtain⟨s',iI⟩:=z7 D';rw[xN iI]at hu;obtain⟨m,l',hm,Pc⟩:=h.us j s' iI hu;by_cases em:m=n
   ·subst em;rw[hl]at hm;cases hm;exact⟨m,l++[k],f8 EN,xx _ Pc⟩
   ·exact⟨m,l',by rw[uE (λc=>em c.symm)];exact hm,Pc⟩
 ·have KM:(a.put n id dq top).du.map (·.used)=(a.du.set k x).map (·.used):=by
   rw[hS];split
   ·rfl
   ·exact Mt (g:=λs:Slot=>s.used) (f:=λs:Slot=>{s with back:=k}) (λ_=>rfl) _ _
  have:=zOb (x:=x) Dw;rw[GH,ej (by decide),show x.used=ax by rw[hx],fc rfl]at this;rw[KM,hF,ud];omega
 ·intro m l' hm j hj;rcases gQ hm with⟨rfl,rfl⟩|⟨e,hm⟩
  ·rcases pn.1 hj with hj|hj
   ·rw[(rj j (λe=>pf (e▸hj))).2.2];exact h.pos m l hl j hj
   ·rw[vf.1 hj,Cl,hx];exact hq.1
  ·rw[(rj j (λe=>Pb m l' hm (e▸hj))).2.2];exact h.pos m l' hm j hj
def N5 (a:dt) (k:Nat) (q:Int) (j:Nat) (hk:k<a.du.length):(a.less k q).ei j=if j=k then{a.ei j with dq:=(a.ei j).dq-q}else a.ei j:=by
 split
 ·rename_i e;subst e;obtain⟨s,hs⟩:=z7 hk;rw[xN hs,xN (a:=a.less j q) (lH hs)]
 ·rename_i e;show(a.du.modify k _).getD j iB=a.du.getD j iB;rw[np,cC (λc=>e c.symm),np]
def dt.yf.less {a:dt} {Q:List (List Nat)} (h:a.yf Q) {n k:Nat} {l:List Nat} (hl:Q[n]? =az l) (hk:k∈l) {q:Int} (hq:0<=q/\q<=(a.ei k).dq):(a.less k q).yf Q:=by
 obtain⟨ra,⟨p,t,hs⟩,Dw⟩:=h.mem hl hk;have pf:k<a.du.length:=by rw[h.len];exact ra
 have hqt:(a.ei k).queue.toNat=n:=by rw[hs.queue];exact ow n
 have hm:∀(j:Nat) (s:Slot),a.du[j]? =az s->∃s',(a.less k q).du[j]? =az s'/\s'.used=s.used/\s'.n=s.n/\s'.queue=s.queue/\s'.ahead=s.ahead/\s'.back=s.back:=by
  intro j s hj;by_cases e:k=j
  ·subst e;exact⟨_,lH hj,rfl,rfl,rfl,rfl,rfl⟩
  ·exact⟨s,by rw[show(a.less k q).du=a.du.modify k _ from rfl,cC e];exact hj,rfl,rfl,rfl,rfl,rfl⟩
 have yd:(a.less k q).du.length=250:=by simpa[dt.less]using h.len
 have EK:(a.less k q).dx=a.dx.modify n λx=>{x with total:=bo.wrap (x.total-q)}:=by rw[dt.less,hqt]
 have KM:(a.less k q).du.map (·.used)=a.du.map (·.used):=Mt (g:=λs:Slot=>s.used) (f:=λs:Slot=>{s with dq:=s.dq-q}) (λ_=>rfl) _ _
 refine⟨yd,by rw[EK];simpa using h.ql,λm l' Ac=> ?_,λm l' Ac=> ?_,h.nd,λj s hj hu=> ?_,by rw[KM];exact h.free⟩
 ·by_cases e:n=m
  ·subst e;rw[hl]at Ac;cases Ac;rw[EK,lH (h.q n l hl)];have B9:=h.sum hl;have e2:(a.less k q).oH l=a.oH l-q:=by
    rw[dt.oH,dt.oH,yBq (k:=k) (f:=λk=>(a.ei k).dq) (h.nd n l hl) hk]
    ·rw[N5 a k q k pf,fc rfl];dsimp only;omega
    ·intro j _ hj;rw[N5 a k q j pf,ej hj]
   have h1:=hs.q2;rw[e2];dsimp only;rw[ir (by omega)]
  ·rw[EK,cC e,h.q m l' Ac,aR];intro j hj;have:j≠k:=λc=>e (h.one hl Ac hk (c▸hj))
   rw[N5 a k q j pf,ej this]
 ·refine VH (λj hj s iI=> ?_) (h.sg m l' Ac);obtain⟨s',q0,q1,q2,q3,q4,q5⟩:=hm j s iI;refine⟨s',q0,q1,q2,q3,q4,q5,?_⟩;have e:=xN q0;rw[<- e,N5 a k q j pf];obtain⟨_,⟨_,_,h2⟩,h3⟩:=h.mem Ac hj;have:=h2.q1;have:=h2.q2;split
  ·rename_i c;subst c;dsimp only;omega
  ·omega
 ·have gr:=(jl.1 hj).1;rw[yd,<- h.len]at gr;obtain⟨s0,h0⟩:=z7 gr;obtain⟨s',q0,q1,_⟩:=hm j s0 h0;rw[hj]at q0;cases q0;exact h.us j s0 h0 (by rw[<- q1];exact hu)
def dt.yf.drop {a:dt} {Q:List (List Nat)} (h:a.yf Q) {n k:Nat} {l1 l2:List Nat} (hl:Q[n]? =az (l1++k::l2)) (h0:(a.ei k).dq=0):
 (a.iG k).yf (Q.set n (l1++l2))/\(∀j,j≠k->((a.iG k).ei j).oX=(a.ei j).oX/\((a.iG k).ei j).used=(a.ei j).used/\((a.iG k).ei j).dq=(a.ei j).dq)/\(a.iG k).ei k=iB/\(a.iG k).free=a.free+1:=by
 have hkm:k∈l1++k::l2:=by simp
 have EN:=(jl.1 hl).1;obtain⟨ra,_,Dw⟩:=h.mem hl hkm;have hlen:=h.len;have pf:k<a.du.length:=by omega
 have I5:=h.sg n _ hl;have qm:=h.nd n _ hl;have hd:=zx.1 qm;have zi:=ze.1 hd.2.1;have k1:k∉l1:=λhk=>hd.2.2 k hk k ji rfl
 have k2:k∉l2:=zi.1;rw[Mj]at I5;obtain⟨g1,⟨s,tc,hs⟩,g2⟩:=I5;have es:=xN tc;have eqn:(a.dx.getD s.queue.toNat mS)=⟨vV (l1++k::l2) (-1),kU (l1++k::l2) (-1),a.oH (l1++k::l2),(l1++k::l2).length⟩:=by
  rw[hs.queue,ow];exact zT (h.q n _ hl)
 have ud:=h.free;have vz:=yCd (sl:=a.du);have M8:=h.short hl;obtain⟨zz,yu⟩:∃zz,zz=if kU l1 (-1)= -1 then a.du else a.du.modify (kU l1 (-1)).toNat λx=>{x with back:=vV l2 (-1)}:=⟨_,rfl⟩
 obtain⟨CA,yt⟩:∃CA,CA=if vV l2 (-1)= -1 then zz else zz.modify (vV l2 (-1)).toNat λx=>{x with ahead:=kU l1 (-1)}:=⟨_,rfl⟩
 have hS:(a.iG k).du=CA.set k iB:=by
  simp only[dt.iG,es,hs.ahead,hs.back];rw[yt,yu]
 have KR:(a.iG k).dx=a.dx.set n ⟨vV (l1++l2) (-1),kU (l1++l2) (-1),a.oH (l1++l2),(l1++l2).length⟩:=by
  simp only[dt.iG,es,eqn,hs.ahead,hs.back];rw[hs.queue,ow];have el:(l1++k::l2).length=(l1++l2).length+1:=by simp;omega
  have eq:a.oH (l1++k::l2)=a.oH (l1++l2):=by
   rw[dt.oH,dt.oH,jk,MI,jk,MI,jo,qv,h0];omega
  rw[el]at M8 ⊢;rw[ir (by omega),eq];congr 2
  ·cases l1 with
   |nil=>simp[kU,XA,vV]
   |cons y ys=>
    rw[ej (by rw[rA];simp)];rfl
  ·rcases wT l2 with e|⟨x,j,e,e2⟩
   ·subst e;simp[vV,aJ,kU]
   ·have:l2≠[]:=by rw[e];simp
    rw[ej (λc=>this ((zTu l2).1 c)),aJ,aJ,kU,e2,e2]
  ·simp
 have hF:(a.iG k).free=a.free+1:=by
  simp only[dt.iG];rw[ir (by omega)]
 have B0:kU l1 (-1)= -1\/∃(y:List Nat) (j:Nat),l1=y++[j]/\kU l1 (-1)=(j:Int):=by
  rcases wT l1 with e|⟨y,j,e,e2⟩
  ·exact .inl ((rA l1).2 e)
  ·exact .inr ⟨y,j,e,e2 _⟩
 have BE:vV l2 (-1)= -1\/∃(y:List Nat) (j:Nat),l2=j::y/\vV l2 (-1)=(j:Int):=by
  cases l2 with
  |nil=>exact .inl rfl
  |cons j y=>exact .inr ⟨y,j,rfl,rfl⟩
 have HQ:∀j,j∉l1->j∉l2->j≠k->(a.iG k).du[j]? =a.du[j]? :=by
  intro j h1 h2 h3;rw[hS,uE (λe=>h3 e.symm),yt];have e1:zz[j]? =a.du[j]? :=by
   rw[yu];split
   ·rfl
   ·rcases B0 with e|⟨y,i,e,e2⟩
    ·contradiction
    ·rw[cC];rw[e2,ow];rintro rfl;exact h1 (by rw[e];simp)
  split
  ·exact e1
  ·rcases BE with e|⟨y,i,e,e2⟩
   ·contradiction
   ·rw[cC,e1];rw[e2,ow];rintro rfl;exact h2 (by rw[e];simp)
 have rj:∀j,j≠k->((a.iG k).ei j).oX=(a.ei j).oX/\((a.iG k).ei j).used=(a.ei j).used/\((a.iG k).ei j).dq=(a.ei j).dq:=by
  intro j hj;have m1:∀(sl:List Slot) (i:Nat) (b:Int),((sl.modify i λx=>{x with back:=b}).getD j iB).oX=(sl.getD j iB).oX/\((sl.modify i λx=>{x with back:=b}).getD j iB).used=(sl.getD j iB).used/\((sl.modify i λx=>{x with back:=b}).getD j iB).dq=(sl.getD j iB).dq:=by
   intro sl i b;rw[np,np,ae];cases sl[j]? with
   |none=>exact⟨rfl,rfl,rfl⟩
   |some s=>by_cases e:i=j<;>simp[e,Slot.oX]
  have m2:∀(sl:List Slot) (i:Nat) (b:Int),((sl.modify i λx=>{x with ahead:=b}).getD j iB).oX=(sl.getD j iB).oX/\((sl.modify i λx=>{x with ahead:=b}).getD j iB).used=(sl.getD j iB).used/\((sl.modify i λx=>{x with ahead:=b}).getD j iB).dq=(sl.getD j iB).dq:=by
   intro sl i b;rw[np,np,ae];cases sl[j]? with
   |none=>exact⟨rfl,rfl,rfl⟩
   |some s=>by_cases e:i=j<;>simp[e,Slot.oX]
  have e0:(a.iG k).ei j=CA.getD j iB:=by
   rw[dt.ei,hS,np,uE (λe=>hj e.symm),np]
  have e1:(zz.getD j iB).oX=(a.ei j).oX/\(zz.getD j iB).used=(a.ei j).used/\(zz.getD j iB).dq=(a.ei j).dq:=by
   rw[yu];split
   ·exact⟨rfl,rfl,rfl⟩
   ·exact m1 _ _ _
  have e2:(CA.getD j iB).oX=(zz.getD j iB).oX/\(CA.getD j iB).used=(zz.getD j iB).used/\(CA.getD j iB).dq=(zz.getD j iB).dq:=by
   rw[yt];split
   ·exact⟨rfl,rfl,rfl⟩
   ·exact m2 _ _ _
  rw[e0];exact⟨e2.1.trans e1.1,e2.2.1.trans e1.2.1,e2.2.2.trans e1.2.2⟩
 have hl1:zz.length=250:=by rw[yu];split<;>simp[hlen]
 have Ng:CA.length=250:=by rw[yt];split<;>simp[hl1]
 have Be:(a.iG k).du[k]? =az iB:=by rw[hS];exact f8 oM
 have K8:xy (a.iG k).du n (-1) (l1++l2) (-1):=by
  rw[hS,Mj];constructor
  ·--the part ahead
   refine vK (sl:=CA) (λj hj=>uE (λe=>k1 (e▸hj))) ?_;have f1:xy zz n (-1) l1 (vV l2 (-1)):=by
    rcases wT l1 with e|⟨y,j,e,e2⟩
    ·subst e;trivial
    ·rw[yu,ej (by rw[e2];omega),e2,ow];subst e;have hd3:=zx.1 hd.1;exact z2b _ (λhj=>hd3.2.2 j hj j ji rfl) g1
   refine vK (λj hj=> ?_) f1;rw[yt];split
   ·rfl
   ·rcases BE with e|⟨y,i,e,e2⟩
    ·contradiction
    ·refine cC ?_;rw[e2,ow];rintro rfl;exact hd.2.2 i hj i (jw _ (by rw[e];simp)) rfl
  ·--the part behind
   refine vK (sl:=CA) (λj hj=>uE (λe=>k2 (e▸hj))) ?_;have f1:xy zz n k l2 (-1):=by
    refine vK (λj hj=> ?_) g2;rw[yu];split
    ·rfl
    ·rcases B0 with e|⟨y,i,e,e2⟩
     ·contradiction
     ·refine cC ?_;rw[e2,ow];rintro rfl;exact hd.2.2 i (by rw[e];simp) i (jw _ hj) rfl
   rcases BE with e|⟨y,j,e,e2⟩
   ·rw[(zTu l2).1 e];trivial
   ·rw[yt,ej (by rw[e2];omega),e2,ow];rw[e]at f1 zi ⊢;exact yFd _ (ze.1 zi.2).1 f1
 refine⟨⟨?_,?_,?_,?_,?_,?_,?_⟩,rj,xN Be,hF⟩
 ·rw[hS,qp];exact Ng
 ·rw[KR];simp[h.ql]
 ·intro m l' hm;rcases b7 hm with⟨rfl,rfl⟩|⟨e,hm⟩
  ·rw[KR,f8 (by rw[h.ql];exact EN)];congr 2;refine(aR λj hj=>(rj j λe=> ?_).2.2).symm;subst e;rcases pn.1 hj with hj|hj
   ·exact k1 hj
   ·exact k2 hj
  ·rw[KR,uE (λc=>e c.symm),h.q m l' hm];congr 2;refine(aR λj hj=>(rj j λe2=> ?_).2.2).symm;subst e2;exact e (h.one hm hl hj hkm)
 ·intro m l' hm;rcases b7 hm with⟨rfl,rfl⟩|⟨e,hm⟩
  ·exact K8
  ·refine vK (λj hj=>HQ j ?_ ?_ ?_) (h.sg m l' hm)
   ·exactλc=>e (h.one hm hl hj (xx _ c))
   ·exactλc=>e (h.one hm hl hj (zg _ (jw _ c)))
   ·rintro rfl;exact e (h.one hm hl hj hkm)
 ·intro m l' hm;rcases b7 hm with⟨rfl,rfl⟩|⟨e,hm⟩
  ·refine zx.2 ⟨hd.1,zi.2,λi hi j hj=>hd.2.2 i hi j (jw _ hj)⟩
  ·exact h.nd m l' hm
 ·intro j s' hj hu;have Pd:j≠k:=by
   rintro rfl;rw[Be]at hj;cases hj;cases hu
  have hu2:(a.ei j).used=ax:=by rw[<- (rj j Pd).2.1,xN hj];exact hu
  have D':j<a.du.length:=by
   have:=(jl.1 hj).1;rw[hS,qp]at this;omega
  obtain⟨s0,Uy⟩:=z7 D';rw[xN Uy]at hu2;obtain⟨m,l',hm,Pc⟩:=h.us j s0 Uy hu2;by_cases em:m=n
  ·subst em;rw[hl]at hm;cases hm;refine⟨m,_,f8 EN,?_⟩;rcases pn.1 Pc with hj|hj
   ·exact xx _ hj
   ·rcases mf.1 hj with e|hj
    ·exact absurd e Pd
    ·exact zg _ hj
  ·exact⟨m,l',by rw[uE (λc=>em c.symm)];exact hm,Pc⟩
 ·have KM:(a.iG k).du.map (·.used)=(a.du.set k iB).map (·.used):=by
   have e1:CA.map (·.used)=a.du.map (·.used):=by
    have f2:CA.map (·.used)=zz.map (·.used):=by
     rw[yt];split
     ·rfl
     ·exact Mt (g:=λs:Slot=>s.used) (f:=λs:Slot=>{s with ahead:=kU l1 (-1)}) (λ_=>rfl) _ _
    have f1:zz.map (·.used)=a.du.map (·.used):=by
     rw[yu];split
     ·rfl
     ·exact Mt (g:=λs:Slot=>s.used) (f:=λs:Slot=>{s with back:=vV l2 (-1)}) (λ_=>rfl) _ _
    rw[f2,f1]
   rw[hS,List.map_set,e1,List.map_set]
  have:=zOb (x:=iB) tc;rw[hs.used,fc rfl,show iB.used=ay from rfl,ej (by decide)]at this;rw[KM,hF,ud];omega
def dt.Wf.take {a:dt} {Q:List (List Nat)} (h:a.Wf Q) {n k:Nat} {l:List Nat} (hl:Q[n]? =az l) (hk:k∈l) {q:Int} (hq:1<=q/\q<=(a.ei k).dq):
 (a.gf k q).2=0/\(∀j,j≠k->((a.gf k q).1.ei j).oX=(a.ei j).oX/\((a.gf k q).1.ei j).used=(a.ei j).used)/\
   (if(a.ei k).dq=q then(a.gf k q).1.Wf (Q.set n (l.erase k))/\(a.gf k q).1.ei k=iB/\(a.gf k q).1.free=a.free+1
    else(a.gf k q).1.Wf Q/\(a.gf k q).1.ei k={a.ei k with dq:=(a.ei k).dq-q}/\(a.gf k q).1.free=a.free):=by
 obtain⟨ra,⟨p,t,hs⟩,Dw⟩:=h.toyf.mem hl hk;have pf:k<a.du.length:=by rw[h.len];exact ra
 have hu:a.iw k=ax:=by
  simp only[dt.iw,kx,tw];refine⟨oM,oM,?_⟩;rw[ow];exact hs.used
 have JO:=h.toyf.less hl hk (q:=q) oM;have td:=N5 a k q;rw[dt.gf,ej (by rw[hu];decide),ow,ej (by omega)];by_cases e:(a.ei k).dq=q
 ·rw[fc e,fc e];obtain⟨l1,l2,rfl⟩:=List.append_of_mem hk;have qm:=h.nd n _ hl;have hd:=zx.1 qm;have k1:k∉l1:=λhk=>hd.2.2 k hk k ji rfl
  obtain⟨d1,d2,d3,d4⟩:=JO.drop hl (by rw[td k pf,fc rfl];dsimp only;omega);have ee:(l1++k::l2).erase k=l1++l2:=by rw[List.erase_append_right _ k1,List.erase_cons_head]
  refine⟨rfl,λj hj=> ?_,?_,d3,d4⟩
  ·have:=d2 j hj;rw[td j pf,ej hj]at this;exact⟨this.1,this.2.1⟩
  ·rw[ee];refine⟨d1,λm l' hm j hj=> ?_⟩;have GI:j≠k/\∃Up,Q[m]? =az Up/\j∈Up:=by
    have zi:=ze.1 hd.2.1;rcases b7 hm with⟨rfl,rfl⟩|⟨e3,hm⟩
    ·refine⟨?_,_,hl,?_⟩
     ·rintro rfl;rcases pn.1 hj with hj|hj
      ·exact k1 hj
      ·exact zi.1 hj
     ·rcases pn.1 hj with hj|hj
      ·exact xx _ hj
      ·exact zg _ (jw _ hj)
    ·refine⟨?_,_,hm,hj⟩;rintro rfl;exact e3 (h.toyf.one hm hl hj hk)
   obtain⟨hj3,Up,hm2,hj4⟩:=GI;have:=(d2 j hj3).2.2;rw[td j pf,ej hj3]at this;dsimp only;rw[this];exact h.pos m Up hm2 j hj4
 ·rw[ej e,ej e];refine⟨rfl,λj hj=> ?_,⟨JO,λm l' hm j hj=> ?_⟩,?_,rfl⟩
  ·dsimp only;rw[td j pf,ej hj];exact⟨rfl,rfl⟩
  ·dsimp only;rw[td j pf];split
   ·rename_i c;subst c;dsimp only;omega
   ·exact h.pos m l' hm j hj
  ·dsimp only;rw[td k pf,fc rfl]
def xE {α β:Type} {f g:α->List β}:∀{l:List α},(∀x∈l,f x=g x)->l.flatMap f=l.flatMap g
 |[],_=>rfl
 |x::l,h=>by rw[vx,vx,h x ji,xE λy hy=>h y (jw _ hy)]
def Iy {α β γ:Type} {f:α->List β} {g:β->γ}:∀(l:List α),(l.flatMap f).map g=l.flatMap λx=>(f x).map g
 |[]=>rfl
 |x::l=>by rw[vx,vx,jk,Iy l]
def Zr {α β:Type} {f:α->List β}:∀{l:List α},(∀x∈l,f x≠[])->l.length<=(l.flatMap f).length
 |[],_=>km 0
 |x::l,h=>by
  have:=Zr (l:=l) λy hy=>h y (jw _ hy)
  have:=List.length_pos_iff.2 (h x ji);rw[vx,im,iD];omega
def Xg {α:Type} [DecidableEq α]:∀{l m:List α},l.Nodup->(∀x∈l,x∈m)->l.length<=m.length
 |[],_,_,_=>my _
 |x::l,m,h,hs=>by
  have hd:=ze.1 h;have hx:=hs x ji;have:=Xg (l:=l) (m:=m.erase x) hd.2 λy hy=>by
   have je:y≠x:=by rintro rfl;exact hd.1 hy
   exact(List.mem_erase_of_ne je).2 (hs y (jw _ hy))
  rw[ag hx]at this;have:=List.length_pos_of_mem hx;rw[iD];omega
def yFg {l:List Int} (h:l.Nodup) (hr:∀x∈l,0<=x/\x<l.length) {n:Nat} (hn:n<l.length):(n:Int)∈l:=by
 apply Classical.byContradiction;intro hx;have qm:((n:Int)::l).Nodup:=ze.2 ⟨hx,h⟩;have:=Xg (m:=(ao l.length).map λk:Nat=>(k:Int)) qm λy hy=>by
  rw[pk];rcases mf.1 hy with rfl|hy
  ·exact⟨n,BT.2 hn,rfl⟩
  ·have:=hr y hy;exact⟨y.toNat,BT.2 oM,oM⟩
 simp at this;omega
def Sf {α β:Type} {l:List (α×β)} (h:(l.map (·.1)).Nodup) {k:α} {x y:β} (hx:(k,x)∈l) (hy:(k,y)∈l):x=y:=by
 induction l with
 |nil=>cases hx
 |cons p l ih=>
  rw[jo,ze]at h;rcases mf.1 hx with ex|hx<;>rcases mf.1 hy with ey|hy
  ·rw[<- ex]at ey;exact(Prod.mk.inj ey).2.symm
  ·exact absurd (su (f:=(·.1)) hy) (by rw[<- ex]at h;exact h.1)
  ·exact absurd (su (f:=(·.1)) hx) (by rw[<- ey]at h;exact h.1)
  ·exact ih h.2 hx hy
def lQ:∀{l:List (Int×Place)} {k:Int} {x:Place},kf l k=az x->(k,x)∈l
 |[],k,x,h=>by cases h
 |p::l,k,x,h=>by
  rw[kf,MJ]at h;by_cases e:p.1=k
  ·rw[lg e]at h;simp only[vw,Option.some.injEq]at h;subst h;subst e;exact ji
  ·rw[kr e]at h;exact jw _ (lQ h)
def Xi {l:List (Int×Place)} {k:Int} (h:kf l k=ba):k∉l.map (·.1):=by
 intro hk;obtain⟨⟨k',x⟩,hx,rfl⟩:=pk.1 hk;rw[kf,Option.map_eq_none_iff,List.find?_eq_none]at h;have:=h _ hx;simp at this
def z2l:∀{l:List (Int×Place)} {k:Int} {x:Place},k∉l.map (·.1)->tH k x l=l++[(k,x)]
 |[],k,x,_=>rfl
 |p::l,k,x,h=>by
  rw[jo,mf,not_or]at h;rw[tH,ej h.1,z2l h.2];rfl
def xD (Q:List (List Nat)) (r:xL):List Nat:=Q.getD r.queue.toNat []
def ZW (s p:Int) (e:DB):zI:=⟨e.id,s,p,e.dq,e.top⟩
def vJ (a:dt) (s p:Int) (k:Nat):zI:=ZW s p (a.ei k).oX
def dm.gv (b:dm) (Q:List (List Nat)) (s:Int) (r:xL):List zI:=(xD Q r).map (vJ b.a s r.dj)
def dm.ie (b:dm) (Q:List (List Nat)) (s:Int):List zI:=(b.dy s).flatMap (b.gv Q s)
def dm.flat (b:dm) (Q:List (List Nat)):List zI:=b.ie Q 1++b.ie Q 2
def vW (a:dt) (s p:Int) (k:Nat):Int×Place:=((a.ei k).id,⟨s,p,k⟩)
def dm.me (b:dm) (Q:List (List Nat)) (s:Int):List (Int×Place):=(b.dy s).flatMap λr=>(xD Q r).map (vW b.a s r.dj)
def dm.qs (b:dm):List Int:=b.ez.map (·.queue)++b.dv.map (·.queue)++b.spare
structure dm.Core (b:dm) (Q:List (List Nat)) (hole:Int):Prop where
 wf:b.a.Wf Q
 wk:∀s,s=1\/s=2->(b.dy s).Pairwise λr r'=>jy s r.dj r'.dj=ax
 tz:∀q∈b.qs,0<=q/\q<Q.length
 nd:b.qs.Nodup
 ql:b.qs.length=Q.length
 ne:∀s,s=1\/s=2->∀r∈b.dy s,r.queue≠hole->xD Q r≠[]
 sp:∀q∈b.spare,Q.getD q.toNat []=[]
 at_:b.at_.Perm (b.me Q 1++b.me Q 2)
 ids:((b.flat Q).map (·.id)).Nodup
 qb:Q.length<=250
structure dm.Ba (b:dm) (L:List zI):Prop where
 fl:∀o∈L,o.top=(b.mh o.side && decide (o.id=b.iU o.side))
 th:∀s,s=1\/s=2->b.mh s=ax->∃o∈L,o.side=s/\o.id=b.iU s
structure dm.fk (b:dm) (L:List zI):Prop where
 ex:∃Q,b.Core Q (-1)/\b.Ba L/\L=b.flat Q
def mD (b:dm) (Q:List (List Nat)) (s:Int):(b.me Q s).map (·.1)=(b.ie Q s).map (·.id):=by
 rw[dm.me,dm.ie,Iy,Iy];refine xE λr _=> ?_
 rw[dm.gv,vu,vu];rfl
def dm.Core.zn {b:dm} {Q:List (List Nat)} {h:Int} (c:b.Core Q h):(b.at_.map (·.1)).Perm ((b.flat Q).map (·.id)):=by
 have:=c.at_.map (·.1)
 rw[jk,mD,mD,<- jk]at this;exact this
def dm.Core.keys {b:dm} {Q:List (List Nat)} {h:Int} (c:b.Core Q h):(b.at_.map (·.1)).Nodup:=c.zn.nodup_iff.2 c.ids
def dm.Core.len {b:dm} {Q:List (List Nat)} {h:Int} (c:b.Core Q h):b.at_.length=(b.flat Q).length:=by
 have:=c.zn.length_eq;simpa using this
def dm.Core.EF {b:dm} {Q:List (List Nat)} {h:Int} (c:b.Core Q h) {s:Int} (hs:s=1\/s=2) {r:xL} (hr:r∈b.dy s) {k:Nat} (hk:k∈xD Q r):((b.a.ei k).id,(⟨s,r.dj,k⟩:Place))∈b.at_:=by
 refine c.at_.mem_iff.2 ?_;have hp:vW b.a s r.dj k∈b.me Q s:=AB.2 ⟨r,hr,su hk⟩;rcases hs with rfl|rfl
 ·exact xx _ hp
 ·exact zg _ hp
def dm.Core.PY {b:dm} {Q:List (List Nat)} {h:Int} (c:b.Core Q h) {id:Int} {x:Place} (hx:(id,x)∈b.at_):∃(k:Nat) (r:xL),(x.side=1\/x.side=2)/\r∈b.dy x.side/\k∈xD Q r/\x=⟨x.side,r.dj,k⟩/\(b.a.ei k).id=id:=by
 have:=c.at_.mem_iff.1 hx;rcases pn.1 this with hp|hp
 all_goals
  obtain⟨r,hr,hp⟩:=AB.1 hp;obtain⟨k,hk,e⟩:=pk.1 hp;simp only[vW,Prod.mk.injEq]at e;obtain⟨e1,rfl⟩:=e;exact⟨k,r,by simp,hr,hk,rfl,e1⟩
def z2q {Q:List (List Nat)} {r:xL} (h:0<=r.queue/\r.queue<Q.length):Q[r.queue.toNat]? =az (xD Q r):=by
 obtain⟨l,hl⟩:=z7 (l:=Q) (i:=r.queue.toNat) oM;rw[xD,zT hl,hl]
def gB {b:dm} {s:Int} (hs:s=1\/s=2) {r:xL} (hr:r∈b.dy s):r.queue∈b.qs:=by
 rcases hs with rfl|rfl
 ·exact xx _ (xx _ (su (f:=(·.queue)) hr))
 ·exact xx _ (zg _ (su (f:=(·.queue)) hr))
def dm.Core.get {b:dm} {Q:List (List Nat)} {h:Int} (c:b.Core Q h) {s:Int} (hs:s=1\/s=2) {r:xL} (hr:r∈b.dy s):Q[r.queue.toNat]? =az (xD Q r):=z2q (c.tz _ (gB hs hr))
def CM (L:List zI) (s:Int):List zI:=L.map λo=>if o.side=s then{o with top:=ay}else o
def Mo (s x:Int):jy s x x=ay:=by
 rw[jy];split<;>exact kr oM
def dm.Core.flag {b:dm} {Q:List (List Nat)} {h:Int} (c:b.Core Q h) {a':dt} (hw:a'.Wf Q) (hi:∀k,(a'.ei k).id=(b.a.ei k).id):({b with a:=a'}:dm).Core Q h:=by
 have e1:∀s,({b with a:=a'}:dm).me Q s=b.me Q s:=by
  intro s;refine xE λr _=>ui λk _=> ?_
  simp only[vW,hi]
 have e2:((({b with a:=a'}:dm).flat Q).map (·.id))=(b.flat Q).map (·.id):=by
  rw[dm.flat,dm.flat,jk,jk,<- mD,<- mD,<- mD,<- mD,e1,e1]
 exact⟨hw,c.wk,c.tz,c.nd,c.ql,c.ne,c.sp,by rw[e1,e1];exact c.at_,by rw[e2];exact c.ids,c.qb⟩
def ySj (a:dt) (n:Int) (t:Bool) (k:Nat):((a.mc n t).ei k).id=(a.ei k).id:=by
 rw[Vu];split<;>rfl
def dm.Core.iP {b:dm} {Q:List (List Nat)} {h:Int} (c:b.Core Q h) (s:Int):(b.iP s).Wf Q/\∀k,((b.iP s).ei k).id=(b.a.ei k).id:=by
 rw[dm.iP]
 repeat' split
 all_goals first|exact⟨c.wf,λ_=>rfl⟩|exact⟨c.wf.top _ _,λk=>ySj _ _ _ k⟩
def dm.Core.Cn {b:dm} {Q:List (List Nat)} {h:Int} (c:b.Core Q h) (ht:b.Ba (b.flat Q)) {s:Int} (hs:s=1\/s=2):({b with a:=b.iP s}:dm).flat Q=CM (b.flat Q) s:=by
 have Ad:∀{s':Int} (iI:s'=1\/s'=2) {r:xL} (hr:r∈b.dy s') {k:Nat} (hk:k∈xD Q r),(b.a.ei k).top=(b.mh s' && decide ((b.a.ei k).id=b.iU s')):=by
  intro s' iI r hr k hk;have hm:vJ b.a s' r.dj k∈b.flat Q:=by
   have:vJ b.a s' r.dj k∈b.ie Q s':=AB.2 ⟨r,hr,su hk⟩;rcases iI with rfl|rfl
   ·exact xx _ this
   ·exact zg _ this
  exact ht.fl _ hm
 have key:∀{s':Int} (iI:s'=1\/s'=2) {r:xL} (hr:r∈b.dy s') {k:Nat} (hk:k∈xD Q r),((b.iP s).ei k).oX=if s'=s then{(b.a.ei k).oX with top:=ay}else(b.a.ei k).oX:=by
  intro s' iI r hr k hk;have yy:=c.EF iI hr hk;have HM:=Ad iI hr hk;have Ja:(b.a.ei k).top=ay->(b.a.ei k).oX=if s'=s then{(b.a.ei k).oX with top:=ay}else(b.a.ei k).oX:=by
   intro e;split
   ·rw[Slot.oX,e]
   ·rfl
  rw[dm.iP];by_cases hh:b.mh s=ax
  ·rw[fc hh];cases hg:kf b.at_ (b.iU s)with
   |none=>
    dsimp only;by_cases e:s'=s
    ·subst e;refine Ja ?_;rw[HM,hh,zw];refine kr λe2=> ?_
     rw[<- e2]at hg;exact Xi hg (su (f:=(·.1)) yy)
    ·rw[ej e]
   |some o=>
    dsimp only;obtain⟨k',r',ye,wu,ra,ho,AI⟩:=c.PY (lQ hg);by_cases es:o.side=s
    ·rw[fc es,Vu];have BX:o.slot=(k':Int):=by rw[ho]
     by_cases ek:k=k'
     ·subst ek;have hu:b.a.iw o.slot=ax:=by
       obtain⟨_,⟨_,_,h2⟩,h3⟩:=c.wf.toyf.mem (c.get iI hr) hk;have gr:=(jl.1 h3).1;simp only[dt.iw,kx,tw,BX,ow];exact⟨oM,oM,h2.used⟩
      rw[fc ⟨hu,by rw[BX];rfl⟩];have:=c.EF ye wu ra;have e3:=Sf c.keys yy this;have e4:s'=s:=by
       have:=congrArg Place.side e3;dsimp only at this;rw[this,es]
      rw[fc e4];rfl
     ·rw[ej (λe=>ek (by have:=e.2;rw[BX]at this;simpa using this))];by_cases e:s'=s
      ·subst e;refine Ja ?_;rw[HM,hh,zw];refine kr λe2=>ek ?_
       have I8:=c.EF ye wu ra;rw[AI,<- e2]at I8;have e3:=Sf c.keys yy I8;have:=congrArg Place.slot e3;dsimp only at this;omega
      ·rw[ej e]
    ·rw[ej es];by_cases e:s'=s
     ·subst e;refine Ja ?_;rw[HM,hh,zw];refine kr λe2=>es ?_
      have I8:=lQ hg;rw[<- e2]at I8;have e3:=Sf c.keys yy I8;rw[<- e3]
     ·rw[ej e]
  ·rw[ej hh];by_cases e:s'=s
   ·subst e;refine Ja ?_;have:b.mh s'=ay:=by simpa using hh
    rw[HM,this,Cu]
   ·rw[ej e]
 have side:∀s',s'=1\/s'=2->({b with a:=b.iP s}:dm).ie Q s'=CM (b.ie Q s') s:=by
  intro s' iI;rw[CM,dm.ie,dm.ie,Iy];refine xE λr hr=> ?_
  rw[dm.gv,dm.gv,vu];refine ui λk hk=> ?_
  simp only[vJ,cm,key iI hr hk,ZW];by_cases e:s'=s
  ·rw[fc e];exact(fc e).symm
  ·rw[ej e];exact(ej e).symm
 rw[dm.flat,side 1 (.inl rfl),side 2 (.inr rfl),dm.flat,CM,CM,CM,jk]
def before (s p:Int) (o:zI):Bool:=decide (o.side<s)||(decide (o.side=s) && !jy s p o.dj)
def gZ (L:List zI) (s p:Int):Bool:=L.all λo=> !decide (o.side=s)||jy s p o.dj
def GX (L:List zI) (s id p q:Int):List zI:=
 let L1:=if gZ L s p=ax then CM L s else L
 L1.takeWhile (before s p)++⟨id,s,p,q,gZ L s p⟩::L1.dropWhile (before s p)
def yGt {α:Type} {f:α->Bool}:∀{A B:List α},(∀x∈A,f x=ax)->(∀x∈B,f x=ay)->(A++B).takeWhile f=A/\(A++B).dropWhile f=B
 |[],[],_,_=>⟨rfl,rfl⟩
 |[],b::B,_,h=>by
  have:=h b ji;simp[this]
 |a::A,B,h,h2=>by
  obtain⟨i1,i2⟩:=yGt (A:=A) (B:=B) (λx hx=>h x (jw _ hx)) h2;have:=h a ji;rw[tv,List.takeWhile_cons,List.dropWhile_cons,this];simp[i1,i2]
def qI {b:dm} {Q:List (List Nat)} {s:Int} {r:xL} {o:zI} (h:o∈b.gv Q s r):o.side=s/\o.dj=r.dj:=by
 obtain⟨k,_,rfl⟩:=pk.1 h;exact⟨rfl,rfl⟩
def mX {b:dm} {Q:List (List Nat)} {s:Int} {o:zI} (h:o∈b.ie Q s):o.side=s/\∃r∈b.dy s,o∈b.gv Q s r/\o.dj=r.dj:=by
 obtain⟨r,hr,ho⟩:=AB.1 h;exact⟨(qI ho).1,r,hr,ho,(qI ho).2⟩
structure Spl (s p:Int) (R1 R2:List xL):Prop where
 a:∀r∈R1,jy s r.dj p=ax
 b:∀r∈R2,jy s p r.dj=ax
def z2t {s x y:Int} (h:jy s x y=ax):jy s y x=ay:=by
 rw[jy]at h ⊢;split at h
 ·rename_i e;rw[fc e];have:=pj h;exact kr oM
 ·rename_i e;rw[ej e];have:=pj h;exact kr oM
def zTg {s x y z:Int} (h:jy s x y=ax) (h2:jy s y z=ax):jy s x z=ax:=by
 rw[jy]at h h2 ⊢;split at h
 ·rename_i e;rw[fc e]at h2 ⊢;have:=pj h;have:=pj h2;exact lg oM
 ·rename_i e;rw[ej e]at h2 ⊢;have:=pj h;have:=pj h2;exact lg oM
def yCi {s x y:Int} (h:jy s x y=ay) (je:x≠y):jy s y x=ax:=by
 rw[jy]at h ⊢;split at h
 ·rename_i e;rw[fc e];have:=KC h;exact lg oM
 ·rename_i e;rw[ej e];have:=KC h;exact lg oM
def Yx {s p:Int} {l:List xL} (hs:l.Pairwise λr r'=>jy s r.dj r'.dj=ax):
 (∀r∈l.take (zZ s l p),jy s r.dj p=ax)/\
 (if kP s l p=ax then ∃r,l[zZ s l p]? =az r/\r.dj=p/\∀r'∈l.drop (zZ s l p+1),jy s p r'.dj=ax
  else ∀r'∈l.drop (zZ s l p),jy s p r'.dj=ax):=by
 have e1:l.take (zZ s l p)=l.takeWhile λr=>jy s r.dj p:=by
  rw[zZ];have h:=MH (l₁:=l.takeWhile λr=>jy s r.dj p) (l₂:=l.dropWhile λr=>jy s r.dj p);rwa [xEs]at h
 have e2:l.drop (zZ s l p)=l.dropWhile λr=>jy s r.dj p:=by
  have h:=Bz (zZ s l p) l;have h2:=xEs (p:=λr:xL=>jy s r.dj p) (l:=l);rw[e1]at h;exact List.append_cancel_left (h.trans h2.symm)
 refine⟨λr hr=> ?_,?_⟩
 ·rw[e1]at hr;exact Dp.1 List.all_takeWhile r hr
 have hd:∀r,l[zZ s l p]? =az r->jy s r.dj p=ay:=by
  intro r hr;have h0:(l.drop (zZ s l p))[0]? =az r:=by rw[AQ];exact hr
  rw[e2]at h0;cases hdw:l.dropWhile λr=>jy s r.dj p with
  |nil=>rw[hdw]at h0;cases h0
  |cons x y=>
   rw[hdw]at h0;cases h0;have:=List.head?_dropWhile_not (λr:xL=>jy s r.dj p) l;rw[hdw]at this;simpa using this
 have hpw:∀r r',l[zZ s l p]? =az r->r'∈l.drop (zZ s l p+1)->jy s r.dj r'.dj=ax:=by
  intro r r' hr ob;have gr:=(jl.1 hr).1;have:=List.Pairwise.sublist (List.drop_sublist (zZ s l p) l) hs;rw[Dq gr,Hf,(jl.1 hr).2]at this;exact this.1 r' ob
 split
 ·rename_i hb;rw[kP]at hb;cases hr:l[zZ s l p]? with
  |none=>rw[hr]at hb;cases hb
  |some r=>
   rw[hr]at hb;have hp:r.dj=p:=pj hb;exact⟨r,rfl,hp,λr' ob=>by rw[<- hp];exact hpw r r' hr ob⟩
 ·rename_i hb;intro r' ob;by_cases gr:zZ s l p<l.length
  ·obtain⟨r,hr⟩:=z7 gr;rw[kP,hr]at hb;have hp:¬r.dj=p:=λe=>hb (lg e)
   have h1:=yCi (hd r hr) hp;rw[Dq gr,(jl.1 hr).2]at ob;rcases mf.1 ob with rfl|ob
   ·exact h1
   ·exact zTg h1 (hpw r r' hr ob)
  ·rw[Hh (by omega)]at ob;cases ob
def dm.qt (b:dm) (s:Int) (l:List xL):dm:=if s=1 then{b with ez:=l}else{b with dv:=l}
def z7t {b:dm} {s:Int} (hs:s=1\/s=2):∃rest,b.qs.Perm ((b.dy s).map (·.queue)++rest)/\∀l,(b.qt s l).qs.Perm (l.map (·.queue)++rest):=by
 rcases hs with rfl|rfl
 ·refine⟨b.dv.map (·.queue)++b.spare,?_,λl=> ?_⟩
  ·rw[dm.qs,jd];exact .refl _
  ·show(l.map (·.queue)++b.dv.map (·.queue)++b.spare).Perm _
   rw[jd]
 ·refine⟨b.ez.map (·.queue)++b.spare,?_,λl=> ?_⟩
  ·rw[dm.qs];show(b.ez.map (·.queue)++b.dv.map (·.queue)++b.spare).Perm (b.dv.map (·.queue)++(b.ez.map (·.queue)++b.spare))
   rw[<- jd];exact AR.append_right _
  ·show(b.ez.map (·.queue)++l.map (·.queue)++b.spare).Perm (l.map (·.queue)++(b.ez.map (·.queue)++b.spare))
   rw[<- jd];exact AR.append_right _
structure Av (b:dm) (Q:List (List Nat)) (s p:Int) (b':dm) (n:Int) (Q':List (List Nat)) (R1 R2:List xL):Prop where
 core:b'.Core Q' n
 dy:b'.dy s=R1++⟨p,n⟩::R2
 jz:Spl s p R1 R2
 flat:b'.flat Q'=b.flat Q
 at_:b'.at_=b.at_
 free:b'.a.free=b.a.free
 fa:∀L,b.Ba L->b'.Ba L
 dq:∀x,b'.mh x=b.mh x/\b'.iU x=b.iU x
def yKr {α:Type} {l:List α} {x d:α} {n:Nat}:(l++[x]).getD n d=if n=l.length then x else l.getD n d:=by
 rw[np,np,List.getElem?_append];split
 ·rw[ej (by omega)]
 ·rename_i h;by_cases e:n=l.length
  ·rw[fc e,e,II];rfl
  ·rw[ej e,tx (show([x]:List α).length<=n-l.length by simp;omega),tx (by omega)]
def dm.Core.add {b:dm} {Q:List (List Nat)} (c:b.Core Q (-1)) {s p n:Int} (hs:s=1\/s=2) {R1 R2:List xL} (hr:b.dy s=R1++R2) (jz:Spl s p R1 R2) {b':dm} {Q':List (List Nat)}
 (Uz:b'.dy s=R1++⟨p,n⟩::R2) (Dt:∀s',s'≠s->s'=1\/s'=2->b'.dy s'=b.dy s') (td:b'.at_=b.at_) (hw:b'.a.Wf Q') (yd:b'.a.du=b.a.du)
 (hQ:∀k,Q'.getD k []=Q.getD k []) (hn:Q.getD n.toNat []=[]) (aaE:∀q∈b'.qs,0<=q/\q<Q'.length) (qm:b'.qs.Nodup) (Ht:b'.qs.length=Q'.length) (tb:∀q∈b'.spare,Q.getD q.toNat []=[]) (OZ:Q'.length<=250):
 b'.Core Q' n/\b'.flat Q'=b.flat Q:=by
 have K7:∀r,xD Q' r=xD Q r:=λr=>hQ _
 have hsa:∀k,b'.a.ei k=b.a.ei k:=λk=>by rw[dt.ei,dt.ei,yd]
 have UG:xD Q ⟨p,n⟩=[]:=hn;have HO:∀s' r,b'.gv Q' s' r=b.gv Q s' r:=by
  intro s' r;rw[dm.gv,dm.gv,K7];exact ui λk _=>by rw[vJ,vJ,hsa]
 have UB:∀s' (r:xL),(xD Q' r).map (vW b'.a s' r.dj)=(xD Q r).map (vW b.a s' r.dj):=by
  intro s' r;rw[K7];exact ui λk _=>by rw[vW,vW,hsa]
 have oO:∀s',s'=1\/s'=2->b'.ie Q' s'=b.ie Q s':=by
  intro s' iI;rw[dm.ie,dm.ie];by_cases e:s'=s
  ·subst e;rw[Uz,hr,yi,yi,vx,xE (λr _=>HO s' r),xE (l:=R2) (λr _=>HO s' r),HO,dm.gv,UG,Ct,yh]
  ·rw[Dt s' e iI];exact xE λr _=>HO s' r
 have yy:∀s',s'=1\/s'=2->b'.me Q' s'=b.me Q s':=by
  intro s' iI;rw[dm.me,dm.me];by_cases e:s'=s
  ·subst e;rw[Uz,hr,yi,yi,vx,xE (λr _=>UB s' r),xE (l:=R2) (λr _=>UB s' r),UB,UG,Ct,yh]
  ·rw[Dt s' e iI];exact xE λr _=>UB s' r
 have rk:b'.flat Q'=b.flat Q:=by rw[dm.flat,dm.flat,oO 1 (.inl rfl),oO 2 (.inr rfl)]
 refine⟨⟨hw,λs' iI=> ?_,aaE,qm,Ht,λs' iI r ob je=> ?_,λq hq=>by rw[hQ];exact tb q hq,by rw[td,yy 1 (.inl rfl),yy 2 (.inr rfl)];exact c.at_,by rw[rk];exact c.ids,OZ⟩,rk⟩
 ·by_cases e:s'=s
  ·subst e;have h0:=c.wk s' iI;rw[hr,af]at h0;rw[Uz,af,Hf];refine⟨h0.1,⟨jz.b,h0.2.1⟩,λx hx y hy=> ?_⟩;rcases mf.1 hy with rfl|hy
   ·exact jz.a x hx
   ·exact h0.2.2 x hx y hy
  ·rw[Dt s' e iI];exact c.wk s' iI
 ·rw[K7];have hold:∀r∈b.dy s',xD Q r≠[]:=λr hr=>c.ne s' iI r hr λe=>by
   have:=c.tz _ (gB iI hr);omega
  by_cases e:s'=s
  ·subst e;rw[Uz]at ob;rcases pn.1 ob with h|h
   ·exact hold r (by rw[hr];exact xx _ h)
   ·rcases mf.1 h with rfl|h
    ·exact absurd rfl je
    ·exact hold r (by rw[hr];exact zg _ h)
  ·rw[Dt s' e iI]at ob;exact hold r ob
def zOe (b:dm) {s:Int} (hs:s=1\/s=2) (l:List xL):(b.qt s l).dy s=l/\∀s',s'≠s->s'=1\/s'=2->(b.qt s l).dy s'=b.dy s':=by
 rcases hs with rfl|rfl
 ·exact⟨rfl,λs' h h2=>by rcases h2 with rfl|rfl;exact absurd rfl h;rfl⟩
 ·exact⟨rfl,λs' h h2=>by rcases h2 with rfl|rfl;rfl;exact absurd rfl h⟩
def yDu (b:dm) {s p:Int} (hs:s=1\/s=2):b.fu s p=if kP s (b.dy s) p=ax then(b,((b.dy s).getD (zZ s (b.dy s) p) ⟨0,0⟩).queue)else(({b with a:=b.iN.2.2,spare:=b.iN.2.1}:dm).qt s (b.ins s p),b.iN.1):=by
 rcases hs with rfl|rfl<;>rfl
def dm.Core.queue {b:dm} {Q:List (List Nat)} (c:b.Core Q (-1)) (hl:(b.flat Q).length<250) {s:Int} (hs:s=1\/s=2) (p:Int):∃Q' R1 R2,Av b Q s p (b.fu s p).1 (b.fu s p).2 Q' R1 R2:=by
 have tb:=Yx (p:=p) (c.wk s hs);rw[yDu b hs];by_cases hb:kP s (b.dy s) p=ax
 ·rw[fc hb]at tb ⊢;obtain⟨h1,r,hr,hp,h2⟩:=tb;have gr:=(jl.1 hr).1;have er:(⟨p,r.queue⟩:xL)=r:=by rw[<- hp]
  have oQ:b.dy s=(b.dy s).take (zZ s (b.dy s) p)++r::(b.dy s).drop (zZ s (b.dy s) p+1):=by
   conv=>lhs;rw[<- Bz (zZ s (b.dy s) p) (b.dy s)]
   rw[Dq gr,(jl.1 hr).2]
  refine⟨Q,_,_,⟨⟨c.wf,c.wk,c.tz,c.nd,c.ql,λs' iI r' ob _=>c.ne s' iI r' ob λe=> ?_,c.sp,c.at_,c.ids,c.qb⟩,?_,⟨h1,h2⟩,rfl,rfl,rfl,λ_ h=>h,λ_=>⟨rfl,rfl⟩⟩⟩
  ·have:=c.tz _ (gB iI ob);omega
  ·dsimp only;rw[zT hr,er];exact oQ
 ·rw[ej hb]at tb ⊢;obtain⟨h1,h2⟩:=tb;have hr:b.dy s=(b.dy s).take (zZ s (b.dy s) p)++(b.dy s).drop (zZ s (b.dy s) p):=(Bz _ _).symm;obtain⟨g1,g2⟩:=zOe ({b with a:=b.iN.2.2,spare:=b.iN.2.1}:dm) hs (b.ins s p);have fa:∀x,((({b with a:=b.iN.2.2,spare:=b.iN.2.1}:dm).qt s (b.ins s p)).mh x=b.mh x/\(({b with a:=b.iN.2.2,spare:=b.iN.2.1}:dm).qt s (b.ins s p)).iU x=b.iU x):=by
   intro x;rcases hs with rfl|rfl<;>exact⟨rfl,rfl⟩
  have td:(({b with a:=b.iN.2.2,spare:=b.iN.2.1}:dm).qt s (b.ins s p)).at_=b.at_:=by rcases hs with rfl|rfl<;>rfl
  have ha:(({b with a:=b.iN.2.2,spare:=b.iN.2.1}:dm).qt s (b.ins s p)).a=b.iN.2.2:=by rcases hs with rfl|rfl<;>rfl
  have Qa:(({b with a:=b.iN.2.2,spare:=b.iN.2.1}:dm).qt s (b.ins s p)).spare=b.iN.2.1:=by rcases hs with rfl|rfl<;>rfl
  obtain⟨rest,q1,q2⟩:=z7t (b:=({b with a:=b.iN.2.2,spare:=b.iN.2.1}:dm)) hs;have q2:=q2 (b.ins s p);have EK:(({b with a:=b.iN.2.2,spare:=b.iN.2.1}:dm).qt s (b.ins s p)).qs.Perm (b.iN.1::({b with a:=b.iN.2.2,spare:=b.iN.2.1}:dm).qs):=by
   refine q2.trans (.trans ?_ (q1.symm.cons _));rw[<- tv];refine cn _ ?_;show((b.ins s p).map (·.queue)).Perm (b.iN.1::(b.dy s).map (·.queue))
   conv=>rhs;rw[hr]
   rw[dm.ins,jk,jk,jo];exact mg
  generalize hB:(({b with a:=b.iN.2.2,spare:=b.iN.2.1}:dm).qt s (b.ins s p))=B at*;have fin:∀Q',B.a.Wf Q'->B.a.du=b.a.du->B.a.free=b.a.free->(∀k,Q'.getD k []=Q.getD k [])->Q.getD b.iN.1.toNat []=[]->(∀q∈B.qs,0<=q/\q<Q'.length)->B.qs.Nodup->B.qs.length=Q'.length->(∀q∈B.spare,Q.getD q.toNat []=[])->Q'.length<=250->∃Q' R1 R2,Av b Q s p B b.iN.1 Q' R1 R2:=by
   intro Q' w1 w2 w3 w4 w5 w6 w7 w8 w9 w10;obtain⟨u1,u2⟩:=c.add hs hr ⟨h1,h2⟩ (b':=B) (Q':=Q') (n:=b.iN.1) (by rw[g1];rfl) g2 td w1 w2 w4 w5 w6 w7 w8 w9 w10;refine⟨Q',_,_,⟨u1,g1.trans rfl,⟨h1,h2⟩,u2,td,w3,λL h=>⟨λo ho=> ?_,λs' iI hh=> ?_⟩,fa⟩⟩
   ·rw[(fa o.side).1,(fa o.side).2];exact h.fl o ho
   ·rw[(fa s').1]at hh;rw[(fa s').2];exact h.th s' iI hh
  by_cases he:b.spare.length=0
  ·have EM:b.iN=((b.a.dx.length:Int),b.spare,b.a.ri):=by rw[dm.iN,fc he]
   have Ht:=c.wf.ql;have aaA:b.spare=[]:=xu he;have Cb:B.qs.Perm ((Q.length:Int)::b.qs):=by
    rw[EM]at EK;rw[<- Ht];exact EK
   refine fin (Q++[[]]) (by rw[ha,EM];exact c.wf.open) (by rw[ha,EM];rfl) (by rw[ha,EM];rfl) (λk=> ?_) ?_ (λq hq=> ?_) ?_ ?_ (λq hq=> ?_) ?_
   ·rw[yKr];split
    ·rename_i e;rw[e,np,tx (km _)];rfl
    ·rfl
   ·rw[EM,np,tx (by dsimp only;omega)];rfl
   ·rw[im];rcases mf.1 (Cb.mem_iff.1 hq)with rfl|hq
    ·simp only[AE];omega
    ·have:=c.tz q hq;simp only[AE];omega
   ·refine Cb.nodup_iff.2 (ze.2 ⟨λhm=> ?_,c.nd⟩);have:=c.tz _ hm;omega
   ·rw[Cb.length_eq,iD,im,c.ql];rfl
   ·rw[Qa,EM]at hq;rw[aaA]at hq;cases hq
   ·have h1:=Zr (l:=b.dy 1) (f:=b.gv Q 1) λr hr e=>c.ne 1 (.inl rfl) r hr (λe2=>by have:=c.tz _ (gB (.inl rfl) hr);omega) (List.map_eq_nil_iff.1 e)
    have h2:=Zr (l:=b.dy 2) (f:=b.gv Q 2) λr hr e=>c.ne 2 (.inr rfl) r hr (λe2=>by have:=c.tz _ (gB (.inr rfl) hr);omega) (List.map_eq_nil_iff.1 e)
    have h3:=c.ql;rw[dm.flat,im,dm.ie,dm.ie]at hl;rw[dm.qs,im,im,ia,ia,he]at h3;rw[eD]at h1 hl;rw[sS]at h2 hl;rw[im,AE];omega
  ·have EM:b.iN=(b.spare.getD (b.spare.length-1) 0,b.spare.take (b.spare.length-1),b.a):=by rw[dm.iN,ej he]
   obtain⟨sp,q,HN⟩:∃sp q,b.spare=sp++[q]:=⟨_,_,(List.dropLast_concat_getLast (l:=b.spare) (by intro e;rw[e]at he;exact he rfl)).symm⟩
   have e1:b.iN=(q,sp,b.a):=by
    rw[EM,HN];simp
   have Cb:B.qs.Perm b.qs:=by
    refine EK.trans ?_;rw[e1];show(q::(b.ez.map (·.queue)++b.dv.map (·.queue)++sp)).Perm (b.ez.map (·.queue)++b.dv.map (·.queue)++b.spare)
    rw[HN,<- jd];exact OK q _|>.symm
   have hq0:q∈b.spare:=by rw[HN];simp
   refine fin Q (by rw[ha,e1];exact c.wf) (by rw[ha,e1]) (by rw[ha,e1]) (λ_=>rfl) (by rw[e1];exact c.sp q hq0) (λq hq=>c.tz q (Cb.mem_iff.1 hq)) (Cb.nodup_iff.2 c.nd) (by rw[Cb.length_eq];exact c.ql) (λq' UA=> ?_) c.qb;rw[Qa,e1]at UA;exact c.sp q' (by rw[HN];exact xx _ UA)
def dm.Core.used {b:dm} {Q:List (List Nat)} (c:b.Core Q (-1)) (hl:(b.flat Q).length<250):b.a.free≠0:=by
 intro hf;have GN:=c.wf.free;rw[hf]at GN;have hz:(b.a.du.map (·.used)).countP (!·)=0:=by omega
 rw[List.countP_eq_zero]at hz;have vj:∀k∈ao 250,k∈((b.dy 1).flatMap (xD Q)++(b.dy 2).flatMap (xD Q)):=by
  intro k hk;have hk:=BT.1 hk;obtain⟨s,hs⟩:=z7 (l:=b.a.du) (i:=k) (by rw[c.wf.len];exact hk);have hu:s.used=ax:=by
   have:=hz s.used (su (lr hs));simpa using this
  obtain⟨n,l,hn,pf⟩:=c.wf.us k s hs hu;have EN:=(jl.1 hn).1;have hm:(n:Int)∈b.qs:=yFg c.nd (λx hx=>by rw[c.ql];exact c.tz x hx) (by rw[c.ql];exact EN);have e:∀r:xL,r.queue=(n:Int)->k∈xD Q r:=by
   intro r hr;rw[xD,hr,ow,zT hn];exact pf
  rw[dm.qs]at hm;rcases pn.1 hm with hm|hm
  ·rcases pn.1 hm with hm|hm
   ·obtain⟨r,hr,er⟩:=pk.1 hm;exact xx _ (AB.2 ⟨r,hr,e r er⟩)
   ·obtain⟨r,hr,er⟩:=pk.1 hm;exact zg _ (AB.2 ⟨r,hr,e r er⟩)
  ·have:=c.sp _ hm;rw[ow,zT hn]at this;rw[this]at pf;cases pf
 have h1:=Xg List.nodup_range vj;have e:∀s,(b.ie Q s).length=((b.dy s).flatMap (xD Q)).length:=by
  intro s;rw[dm.ie,MO,MO];congr 1;exact ui λr _=>by rw[dm.gv,ia]
 rw[im,<- e,<- e,List.length_range]at h1;rw[dm.flat,im]at hl;omega
def zVr {s p:Int} {o:zI} (h:o.side≠s) (gr:o.side=1\/o.side=2) (hs:s=1\/s=2):before s p o=decide (s=2):=by
 rw[before,kr h,Cu,Bool.or_false];rcases hs with rfl|rfl
 ·rw[kr (by omega),kr (by omega)]
 ·rw[lg (by omega),lg rfl]
def Av.put {b:dm} {Q:List (List Nat)} {s p:Int} {b':dm} {n:Int} {Q':List (List Nat)} {R1 R2:List xL} (h:Av b Q s p b' n Q' R1 R2) (hs:s=1\/s=2) {id dq:Int} (top:Bool) (AI:id∉(b.flat Q).map (·.id)) (hf:b.a.free≠0) (hq:1<=dq/\dq<=1000000):
 ∃Q3 A B,({b' with a:=(b'.a.push n id dq top).1,at_:=tH id ⟨s,p,(b'.a.push n id dq top).2.1⟩ b'.at_}:dm).Core Q3 (-1)/\b'.flat Q'=A++B/\
  ({b' with a:=(b'.a.push n id dq top).1,at_:=tH id ⟨s,p,(b'.a.push n id dq top).2.1⟩ b'.at_}:dm).flat Q3=A++⟨id,s,p,dq,top⟩::B/\(∀o∈A,before s p o=ax)/\∀o∈B,before s p o=ay:=by
 have c:=h.core;have D9:(⟨p,n⟩:xL)∈b'.dy s:=by rw[h.dy];simp
 have hnr:0<=n/\n<Q'.length:=c.tz n (gB hs D9);obtain⟨m,rfl⟩:∃m:Nat,n=m:=⟨n.toNat,oM⟩
 have hl:Q'[m]? =az (xD Q' ⟨p,m⟩):=z2q (r:=⟨p,m⟩) hnr;obtain⟨k,k1,k2,k3,k4,kw,P7,aa4⟩:=c.wf.put (id:=id) hl (by rw[h.free];exact hf) top hq;have Q2:b'.a.push m id dq top=(b'.a.put m id dq top,(k:Int),0):=by
  have:=c.wf.ql;rw[dt.push,ej (by omega),ej (by omega),ej (by rw[h.free];exact hf),k1]
 rw[Q2];dsimp only;have hmQ:=(jl.1 hl).1;have EL:∀s' (r:xL),(s'=1\/s'=2)->r∈b'.dy s'->(r.queue=m->s'=s/\r=⟨p,m⟩):=by
  intro s' r iI hr e;obtain⟨rest,q1,_⟩:=z7t (b:=b') hs;have qm:=q1.nodup_iff.1 c.nd;rw[h.dy,jk,jo]at qm;by_cases es:s'=s
  ·subst es;refine⟨rfl,?_⟩;rw[h.dy]at hr;have Qd:=(zx.1 qm).1;rcases pn.1 hr with hr|hr
   ·exact absurd e ((zx.1 Qd).2.2 r.queue (su (f:=(·.queue)) hr) m ji)
   ·rcases mf.1 hr with rfl|hr
    ·rfl
    ·have:=(ze.1 (zx.1 Qd).2.1).1;exact absurd (e▸su (f:=(·.queue)) hr) this
  ·exfalso;have GN:=c.nd;rw[dm.qs]at GN;have Qf:=(zx.1 (zx.1 GN).1).2.2;have ha:(m:Int)∈(b'.dy s).map (·.queue):=pk.2 ⟨_,D9,rfl⟩
   have hb:(m:Int)∈(b'.dy s').map (·.queue):=pk.2 ⟨r,hr,e⟩
   rcases hs with rfl|rfl<;>rcases iI with rfl|rfl
   ·exact es rfl
   ·exact Qf _ ha _ hb rfl
   ·exact Qf _ hb _ ha rfl
   ·exact es rfl
 have yu:xD (Q'.set m (xD Q' ⟨p,m⟩++[k])) ⟨p,m⟩=xD Q' ⟨p,m⟩++[k]:=by
  show(Q'.set m _).getD (Int.toNat (m:Int)) []=_;rw[ow];exact zT (f8 hmQ)
 have yt:∀q:Int,0<=q->q≠m->(Q'.set m (xD Q' ⟨p,m⟩++[k])).getD q.toNat []=Q'.getD q.toNat []:=by
  intro q h0 je;rw[np,uE (by omega),np]
 generalize hQ3:Q'.set m (xD Q' ⟨p,m⟩++[k])=Q3 at*;have Jf:Q3.length=Q'.length:=by rw[<- hQ3,qp]
 have aba:=mD;have Ao:∀s' (r:xL),(s'=1\/s'=2)->r∈b'.dy s'->∀j∈xD Q' r,j≠k/\(vJ (b'.a.put m id dq top) s' r.dj j=vJ b'.a s' r.dj j/\vW (b'.a.put m id dq top) s' r.dj j=vW b'.a s' r.dj j):=by
  intro s' r iI hr j hj;have Pd:j≠k:=by rintro rfl;exact k4 _ _ (c.get iI hr) hj
  have:=P7 j;rw[ej Pd]at this;refine⟨Pd,by rw[vJ,vJ,this],?_⟩;have:=congrArg DB.id this;rw[vW,vW];exact congrArg (λi=>(i,(⟨s',r.dj,j⟩:Place))) this
 have GD:∀s' (r:xL),(s'=1\/s'=2)->r∈b'.dy s'->r.queue≠m->xD Q3 r=xD Q' r:=by
  intro s' r iI hr je;exact yt _ (c.tz _ (gB iI hr)).1 je
 generalize hB:({b' with a:=b'.a.put m id dq top,at_:=tH id ⟨s,p,k⟩ b'.at_}:dm)=B3;have Pu:∀s',B3.dy s'=b'.dy s':=by intro s';rw[<- hB];rfl
 have Pv:B3.a=b'.a.put m id dq top:=by rw[<- hB]
 have aaX:B3.at_=tH id ⟨s,p,k⟩ b'.at_:=by rw[<- hB]
 have Ll:B3.qs=b'.qs:=by rw[<- hB];rfl
 have aaW:B3.spare=b'.spare:=by rw[<- hB]
 have Dt:∀s' (r:xL),(s'=1\/s'=2)->r∈b'.dy s'->r.queue≠m->B3.gv Q3 s' r=b'.gv Q' s' r/\(xD Q3 r).map (vW B3.a s' r.dj)=(xD Q' r).map (vW b'.a s' r.dj):=by
  intro s' r iI hr je;rw[dm.gv,dm.gv,GD s' r iI hr je,Pv];exact⟨ui λj hj=>(Ao s' r iI hr j hj).2.1,ui λj hj=>(Ao s' r iI hr j hj).2.2⟩
 have HR:vJ B3.a s p k=⟨id,s,p,dq,top⟩/\vW B3.a s p k=(id,⟨s,p,k⟩):=by
  have:=P7 k;rw[fc rfl]at this;rw[vJ,Pv,this];refine⟨rfl,?_⟩;have:=congrArg DB.id this;rw[vW];exact congrArg (λi=>(i,(⟨s,p,k⟩:Place))) this
 have Qb:B3.gv Q3 s ⟨p,m⟩=b'.gv Q' s ⟨p,m⟩++[⟨id,s,p,dq,top⟩]/\(xD Q3 ⟨p,m⟩).map (vW B3.a s p)=(xD Q' ⟨p,m⟩).map (vW b'.a s p)++[(id,⟨s,p,k⟩)]:=by
  rw[dm.gv,dm.gv,yu,jk,jk,am,am];refine⟨?_,?_⟩
  ·rw[HR.1,ui (g:=vJ b'.a s p) λj hj=>by rw[Pv];exact(Ao s ⟨p,m⟩ hs D9 j hj).2.1]
  ·rw[HR.2,ui (g:=vW b'.a s p) λj hj=>by rw[Pv];exact(Ao s ⟨p,m⟩ hs D9 j hj).2.2]
 have UN:∀r∈R1,r∈b'.dy s/\r.queue≠m:=by
  intro r hr;have hm:r∈b'.dy s:=by rw[h.dy];exact xx _ hr
  refine⟨hm,λe=> ?_⟩;have e2:=(EL s r hs hm e).2;have:=h.jz.a r hr;rw[e2,Mo]at this;cases this
 have Nj:∀r∈R2,r∈b'.dy s/\r.queue≠m:=by
  intro r hr;have hm:r∈b'.dy s:=by rw[h.dy];exact zg _ (jw _ hr)
  refine⟨hm,λe=> ?_⟩;have e2:=(EL s r hs hm e).2;have:=h.jz.b r hr;rw[e2,Mo]at this;cases this
 have zC:B3.ie Q3 s=(R1.flatMap (b'.gv Q' s)++b'.gv Q' s ⟨p,m⟩)++⟨id,s,p,dq,top⟩::R2.flatMap (b'.gv Q' s):=by
  rw[dm.ie,Pu,h.dy,yi,vx,Qb.1,xE (l:=R1) (λr hr=>(Dt s r hs (UN r hr).1 (UN r hr).2).1),xE (l:=R2) (λr hr=>(Dt s r hs (Nj r hr).1 (Nj r hr).2).1)];simp
 have Jr:b'.ie Q' s=(R1.flatMap (b'.gv Q' s)++b'.gv Q' s ⟨p,m⟩)++R2.flatMap (b'.gv Q' s):=by
  rw[dm.ie,h.dy,yi,vx,jd]
 have PX:(B3.me Q3 s).Perm ((id,⟨s,p,k⟩)::b'.me Q' s):=by
  rw[dm.me,Pu,h.dy,yi,vx,Qb.2,xE (l:=R1) (λr hr=>(Dt s r hs (UN r hr).1 (UN r hr).2).2),xE (l:=R2) (λr hr=>(Dt s r hs (Nj r hr).1 (Nj r hr).2).2),dm.me,h.dy,yi,vx];rw[jd,List.singleton_append,<- jd];refine mg.trans ?_;rw[jd]
 have other:∀s',s'≠s->s'=1\/s'=2->B3.ie Q3 s'=b'.ie Q' s'/\B3.me Q3 s'=b'.me Q' s':=by
  intro s' je iI;have HS:∀r∈b'.dy s',r.queue≠m:=λr hr e=>je (EL s' r iI hr e).1
  rw[dm.ie,dm.ie,dm.me,dm.me,Pu];exact⟨xE λr hr=>(Dt s' r iI hr (HS r hr)).1,xE λr hr=>(Dt s' r iI hr (HS r hr)).2⟩
 have bA:∀o∈R1.flatMap (b'.gv Q' s)++b'.gv Q' s ⟨p,m⟩,before s p o=ax:=by
  intro o ho;rcases pn.1 ho with ho|ho
  ·obtain⟨r,hr,ho⟩:=AB.1 ho;obtain⟨e1,e2⟩:=qI ho;rw[before,e1,e2,z2t (h.jz.a r hr)];simp
  ·obtain⟨e1,e2⟩:=qI ho;rw[before,e1,e2,Mo];simp
 have bB:∀o∈R2.flatMap (b'.gv Q' s),before s p o=ay:=by
  intro o ho;obtain⟨r,hr,ho⟩:=AB.1 ho;obtain⟨e1,e2⟩:=qI ho;rw[before,e1,e2,h.jz.b r hr];simp
 have bO:∀s',s'≠s->s'=1\/s'=2->∀o∈b'.ie Q' s',before s p o=decide (s=2):=by
  intro s' je iI o ho;have:=(mX ho).1;exact zVr oM oM hs
 have Rl:∃A B,b'.flat Q'=A++B/\B3.flat Q3=A++⟨id,s,p,dq,top⟩::B/\(∀o∈A,before s p o=ax)/\∀o∈B,before s p o=ay:=by
  rcases hs with rfl|rfl
  ·refine⟨_,R2.flatMap (b'.gv Q' 1)++b'.ie Q' 2,?_,?_,bA,λo ho=> ?_⟩
   ·rw[dm.flat,Jr];simp only[jd]
   ·rw[dm.flat,zC,(other 2 (by decide) (.inr rfl)).1];simp only[jd,tv]
   ·rcases pn.1 ho with ho|ho
    ·exact bB o ho
    ·exact bO 2 Z8 (.inr rfl) o ho
  ·refine⟨b'.ie Q' 1++(R1.flatMap (b'.gv Q' 2)++b'.gv Q' 2 ⟨p,m⟩),R2.flatMap (b'.gv Q' 2),?_,?_,λo ho=> ?_,bB⟩
   ·rw[dm.flat,Jr];simp only[jd]
   ·rw[dm.flat,zC,(other 1 (by decide) (.inl rfl)).1];simp only[jd]
   ·rcases pn.1 ho with ho|ho
    ·exact bO 1 Z8 (.inl rfl) o ho
    ·exact bA o ho
 obtain⟨A,B,f1,f2,f3,f4⟩:=Rl;refine⟨Q3,A,B,⟨by rw[Pv];exact kw,λs' iI=>by rw[Pu];exact c.wk s' iI,by rw[Ll,Jf];exact c.tz,by rw[Ll];exact c.nd,by rw[Ll,Jf];exact c.ql,λs' iI r hr _=> ?_,λq hq=> ?_,?_,?_,by rw[Jf];exact c.qb⟩,f1,f2,f3,f4⟩
 ·rw[Pu]at hr;by_cases e:r.queue=m
  ·obtain⟨rfl,rfl⟩:=EL s' r iI hr e;rw[yu];simp
  ·rw[GD s' r iI hr e];exact c.ne s' iI r hr e
 ·rw[aaW]at hq;have Nb:q∈b'.qs:=zg _ hq;rw[yt q (c.tz q Nb).1 λe=> ?_]
  ·exact c.sp q hq
  ·have GN:=c.nd;rw[dm.qs]at GN;refine(zx.1 GN).2.2 m ?_ q hq e.symm;rcases hs with rfl|rfl
   ·exact xx _ (pk.2 ⟨_,D9,rfl⟩)
   ·exact zg _ (pk.2 ⟨_,D9,rfl⟩)
 ·have Hu:id∉b'.at_.map (·.1):=by
   rw[c.zn.mem_iff,h.flat];exact AI
  rw[aaX,z2l Hu];refine(OK _ _).trans ?_;rcases hs with rfl|rfl
  ·rw[(other 2 (by decide) (.inr rfl)).2];exact(c.at_.cons _).trans (PX.symm.append_right _)
  ·rw[(other 1 (by decide) (.inl rfl)).2];refine(c.at_.cons _).trans ?_;refine(mg.symm).trans (PX.symm.append_left _)
 ·rw[f2,jk,jo];have h1:=c.ids;rw[f1,jk]at h1;have h2:id∉(A++B).map (·.id):=by rw[<- f1,h.flat];exact AI
  refine mg.nodup_iff.2 (ze.2 ⟨by rw[jk]at h2;exact h2,h1⟩)
def wU (L:List zI) (id:Int):Bool:=L.any λo=>decide (o.id=id)
def DX (L:List zI) (s id p q:Int):List zI×Int:=if q<1\/1000000<q then(L,24)else if wU L id=ax then(L,25)else if 250<=L.length then(L,13)else(GX L s id p q,0)
def jx {L:List zI} {id:Int}:wU L id=ax↔id∈L.map (·.id):=by
 rw[wU,List.any_eq_true,pk];constructor
 ·rintro⟨o,ho,e⟩;exact⟨o,ho,pj e⟩
 ·rintro⟨o,ho,e⟩;exact⟨o,ho,lg e⟩
def pY {b:dm} {Q:List (List Nat)} {o:zI} (h:o∈b.flat Q):(o.side=1\/o.side=2)/\∃r∈b.dy o.side,o∈b.gv Q o.side r/\o.dj=r.dj:=by
 rcases pn.1 h with h|h
 all_goals
  obtain⟨e,r,hr,ho,hp⟩:=mX h;rw[e];exact⟨by simp,r,hr,ho,hp⟩
def Br {b:dm} {Q:List (List Nat)} {s:Int} (hs:s=1\/s=2) {o:zI} (h:o∈b.ie Q s):o∈b.flat Q:=by
 rcases hs with rfl|rfl
 ·exact xx _ h
 ·exact zg _ h
def dm.Core.leads {b:dm} {Q:List (List Nat)} (c:b.Core Q (-1)) {s:Int} (hs:s=1\/s=2) (p:Int):b.leads s p=gZ (b.flat Q) s p:=by
 have P':=c.wk s hs;have je:=c.ne s hs;rw[dm.leads];cases hr:b.dy s with
 |nil=>
  symm;dsimp only;rw[gZ,Dp];intro o ho;obtain⟨_,r,wu,_⟩:=pY ho;by_cases e:o.side=s
  ·rw[e,hr]at wu;cases wu
  ·rw[kr e];rfl
 |cons r0 l=>
  dsimp only;rw[hr,Hf]at P';have hm:r0∈b.dy s:=by rw[hr];exact ji
  cases hb:jy s p r0.dj with
  |true=>
   symm;rw[gZ,Dp];intro o ho;obtain⟨_,r,wu,_,hp⟩:=pY ho;by_cases e:o.side=s
   ·rw[e,hr]at wu;rw[hp];rcases mf.1 wu with rfl|wu
    ·rw[hb];simp
    ·rw[zTg hb (P'.1 r wu)];simp
   ·rw[kr e];rfl
  |false=>
   symm;rw[gZ,List.all_eq_false];have h0:=je r0 hm λe=>by have:=c.tz _ (gB hs hm);omega
   cases hk:xD Q r0 with
   |nil=>exact absurd hk h0
   |cons k ks=>
    refine⟨vJ b.a s r0.dj k,Br hs (AB.2 ⟨r0,hm,by rw[dm.gv,hk];exact ji⟩),?_⟩;show ¬((!decide (s=s))||jy s p r0.dj)=ax;rw[hb];simp
def z8o {L:List zI} {s:Int} {o:zI} (h:o∈CM L s):∃o'∈L,o.id=o'.id/\o.side=o'.side/\o.dj=o'.dj/\o.dq=o'.dq/\o.top=(if o.side=s then ay else o'.top):=by
 obtain⟨o',ho,e⟩:=pk.1 h;refine⟨o',ho,?_⟩;by_cases c:o'.side=s
 ·rw[fc c]at e;subst e;exact(nr ((fc c).symm))
 ·rw[ej c]at e;subst e;exact(nr ((ej c).symm))
def yOt {L:List zI} {s:Int} {o:zI} (h:o∈L) (hs:o.side≠s):o∈CM L s:=pk.2 ⟨o,h,ej hs⟩
def yAl (L:List zI) (s:Int):(CM L s).map (·.id)=L.map (·.id):=by
 rw[CM,vu];refine ui λo _=> ?_
 simp only[cm];split<;>rfl
def zZg (b:dm) (id:Int) {s:Int} (hs:s=1\/s=2):(b.jc id s).a=b.iP s/\(b.jc id s).ez=b.ez/\(b.jc id s).dv=b.dv/\(b.jc id s).at_=b.at_/\(b.jc id s).spare=b.spare/\∀s',s'=1\/s'=2->(b.jc id s).mh s'=(if s'=s then ax else b.mh s')/\(b.jc id s).iU s'=(if s'=s then id else b.iU s'):=by
 rcases hs with rfl|rfl
 ·exact(Aa (λs' h=>by rcases h with rfl|rfl<;>exact⟨rfl,rfl⟩))
 ·exact(Aa (λs' h=>by rcases h with rfl|rfl<;>exact⟨rfl,rfl⟩))
def dm.Core.lj {b b':dm} {Q:List (List Nat)} {h:Int} (c:b.Core Q h) (e1:b'.a=b.a) (e2:b'.ez=b.ez) (e3:b'.dv=b.dv) (e4:b'.at_=b.at_) (e5:b'.spare=b.spare):b'.Core Q h/\b'.flat Q=b.flat Q:=by
 have er:∀s,b'.dy s=b.dy s:=λs=>by rw[dm.dy,dm.dy,e2,e3]
 have eo:∀s r,b'.gv Q s r=b.gv Q s r:=λs r=>by rw[dm.gv,dm.gv,e1]
 have es:∀s,b'.ie Q s=b.ie Q s:=λs=>by rw[dm.ie,dm.ie,er];exact xE λr _=>eo s r
 have ep:∀s,b'.me Q s=b.me Q s:=λs=>by rw[dm.me,dm.me,er,e1]
 have ef:b'.flat Q=b.flat Q:=by rw[dm.flat,dm.flat,es,es]
 have eq:b'.qs=b.qs:=by rw[dm.qs,dm.qs,e2,e3,e5]
 exact⟨⟨by rw[e1];exact c.wf,λs hs=>by rw[er];exact c.wk s hs,by rw[eq];exact c.tz,by rw[eq];exact c.nd,by rw[eq];exact c.ql,λs hs=>by rw[er];exact c.ne s hs,by rw[e5];exact c.sp,by rw[e4,ep,ep];exact c.at_,by rw[ef];exact c.ids,c.qb⟩,ef⟩
def dm.fk.o6 {b:dm} {L:List zI} (h:b.fk L) {s:Int} (hs:s=1\/s=2) {id p q:Int} (AI:id∉L.map (·.id)) (hl:L.length<250) (hq:1<=q/\q<=1000000):(b.o6 s id p q).fk (GX L s id p q):=by
 obtain⟨Q,c,ht,rfl⟩:=h;have O9:=c.leads hs p;have h1:(b.qf id s p).Core Q (-1)/\(b.qf id s p).flat Q=(if gZ (b.flat Q) s p=ax then CM (b.flat Q) s else b.flat Q):=by
  rw[dm.qf,O9];split
  ·obtain⟨e1,e2,e3,e4,e5,_⟩:=zZg b id hs;obtain⟨u1,u2⟩:=c.iP s;obtain⟨v1,v2⟩:=dm.Core.lj (b':=b.jc id s) (c.flag u1 u2) e1 e2 e3 e4 e5;exact⟨v1,v2.trans (c.Cn ht hs)⟩
  ·exact⟨c,rfl⟩
 obtain⟨c1,f1⟩:=h1;have JP:((b.qf id s p).flat Q).length<250:=by
  rw[f1];split
  ·rw[CM,ia];exact hl
  ·exact hl
 have aaP:id∉((b.qf id s p).flat Q).map (·.id):=by
  rw[f1];split
  ·rw[yAl];exact AI
  ·exact AI
 obtain⟨Q',R1,R2,EL⟩:=c1.queue JP hs p;obtain⟨Q3,A,B,k1,k2,k3,k4,k5⟩:=EL.put hs (b.leads s p) aaP (c1.used JP) hq;have KV:A++B=(if gZ (b.flat Q) s p=ax then CM (b.flat Q) s else b.flat Q):=by rw[<- k2,EL.flat,f1]
 have A7:GX (b.flat Q) s id p q=A++⟨id,s,p,q,b.leads s p⟩::B:=by
  rw[GX];obtain⟨t1,t2⟩:=yGt k4 k5;rw[<- KV,t1,t2,O9]
 refine⟨Q3,k1,?_,?_⟩
 ·rw[A7,O9];show dm.Ba {((b.qf id s p).fu s p).1 with a:=_,at_:=_} _;have ta:∀x,({((b.qf id s p).fu s p).1 with a:=(((b.qf id s p).fu s p).1.a.push ((b.qf id s p).fu s p).2 id q (b.leads s p)).1,at_:=tH id ⟨s,p,(((b.qf id s p).fu s p).1.a.push ((b.qf id s p).fu s p).2 id q (b.leads s p)).2.1⟩ ((b.qf id s p).fu s p).1.at_}:dm).mh x=(b.qf id s p).mh x/\({((b.qf id s p).fu s p).1 with a:=(((b.qf id s p).fu s p).1.a.push ((b.qf id s p).fu s p).2 id q (b.leads s p)).1,at_:=tH id ⟨s,p,(((b.qf id s p).fu s p).1.a.push ((b.qf id s p).fu s p).2 id q (b.leads s p)).2.1⟩ ((b.qf id s p).fu s p).1.at_}:dm).iU x=(b.qf id s p).iU x:=EL.dq;generalize ({((b.qf id s p).fu s p).1 with a:=(((b.qf id s p).fu s p).1.a.push ((b.qf id s p).fu s p).2 id q (b.leads s p)).1,at_:=tH id ⟨s,p,(((b.qf id s p).fu s p).1.a.push ((b.qf id s p).fu s p).2 id q (b.leads s p)).2.1⟩ ((b.qf id s p).fu s p).1.at_}:dm)=B3 at*;have OQ:∀o,o∈A++⟨id,s,p,q,gZ (b.flat Q) s p⟩::B↔o=⟨id,s,p,q,gZ (b.flat Q) s p⟩\/o∈A++B:=by
   intro o;rw[pn,mf,pn];constructor
   ·rintro(h|h|h)
    ·exact .inr (.inl h)
    ·exact .inl h
    ·exact .inr (.inr h)
   ·rintro(h|h|h)
    ·exact .inr (.inl h)
    ·exact .inl h
    ·exact .inr (.inr h)
  have D7:∀o∈b.flat Q,o.side=1\/o.side=2:=λo ho=>(pY ho).1
  by_cases zo:gZ (b.flat Q) s p=ax
  ·rw[fc zo]at KV;have pz:b.qf id s p=b.jc id s:=by rw[dm.qf,fc (O9.trans zo)]
   obtain⟨_,_,_,_,_,e6⟩:=zZg b id hs;rw[pz]at ta;refine⟨λo ho=> ?_,λs' iI hh=> ?_⟩
   ·rcases(OQ o).1 ho with rfl|ho
    ·rw[(ta s).1,(ta s).2,(e6 s hs).1,(e6 s hs).2,fc rfl,fc rfl,zo];simp
    ·rw[KV]at ho;obtain⟨o',oz,i1,i2,_,_,i5⟩:=z8o ho;rw[(ta _).1,(ta _).2,i5,(e6 o.side (by rw[i2];exact D7 o' oz)).1,(e6 o.side (by rw[i2];exact D7 o' oz)).2];by_cases e:o.side=s
     ·rw[fc e,fc e,fc e,zw];symm;refine kr λe2=>AI ?_
      rw[<- e2,i1];exact su oz
     ·rw[ej e,ej e,ej e,ht.fl o' oz,i1,i2]
   ·rw[(ta s').2,(e6 s' iI).2];by_cases e:s'=s
    ·rw[fc e];exact⟨_,(OQ _).2 (.inl rfl),e.symm,rfl⟩
    ·rw[(ta s').1,(e6 s' iI).1,ej e]at hh;rw[ej e];obtain⟨o,ho,o1,o2⟩:=ht.th s' iI hh;exact⟨o,(OQ _).2 (.inr (by rw[KV];exact yOt ho (by rw[o1];exact e))),o1,o2⟩
  ·rw[ej zo]at KV;have hlf:gZ (b.flat Q) s p=ay:=by simpa using zo
   have pz:b.qf id s p=b:=by rw[dm.qf,ej (by rw[O9];exact zo)]
   rw[pz]at ta;refine⟨λo ho=> ?_,λs' iI hh=> ?_⟩
   ·rw[(ta _).1,(ta _).2];rcases(OQ o).1 ho with rfl|ho
    ·show gZ (b.flat Q) s p=(b.mh s && decide (id=b.iU s));rw[hlf];cases hh:b.mh s with
     |false=>rfl
     |true=>
      rw[zw];symm;refine kr λe2=>AI ?_
      obtain⟨o,ho,_,o2⟩:=ht.th s hs hh;rw[e2,<- o2];exact su ho
    ·rw[KV]at ho;exact ht.fl o ho
   ·rw[(ta s').1]at hh;rw[(ta s').2];obtain⟨o,ho,o1,o2⟩:=ht.th s' iI hh;exact⟨o,(OQ _).2 (.inr (by rw[KV];exact ho)),o1,o2⟩
 ·rw[A7];exact k3.symm
def dm.fk.kf {b:dm} {L:List zI} (h:b.fk L) (id:Int):(kf b.at_ id).isSome=wU L id:=by
 obtain⟨Q,c,ht,rfl⟩:=h;cases hg:Sx.kf b.at_ id with
 |none=>
  have:=Xi hg;rw[c.zn.mem_iff,<- jx]at this;symm;simpa using this
 |some x=>
  have:=su (f:=(·.1)) (lQ hg)
  rw[c.zn.mem_iff,<- jx]at this;symm;exact this
def dm.fk.len {b:dm} {L:List zI} (h:b.fk L):b.at_.length=L.length:=by
 obtain⟨Q,c,ht,rfl⟩:=h;exact c.len
def dm.fk.add {b:dm} {L:List zI} (h:b.fk L) {s:Int} (hs:s=1\/s=2) (id p q:Int):(b.gx s id p q).1.fk (DX L s id p q).1/\(b.gx s id p q).2=(DX L s id p q).2:=by
 rw[dm.gx,DX,h.kf,h.len]
 repeat' split
 all_goals first|exact⟨h,rfl⟩|skip
 rename_i c1 c2 c3;exact⟨h.o6 hs (λe=>c2 (jx.2 e)) oM oM,rfl⟩
def yDg:lz.fk []:=by
 refine⟨[],⟨⟨⟨by simp[lz,NB],rfl,λn l h=>by simp at h,λn l h=>by simp at h,λn l h=>by simp at h,λk s hk hu=> ?_,?_⟩,λn l h=>by simp at h⟩,λs hs=> ?_,λq hq=>by simp[lz,dm.qs]at hq,by simp[lz,dm.qs],rfl,λs hs r hr=> ?_,λq hq=>by simp[lz]at hq,?_,?_,Z8⟩,⟨λo ho=>(by cases ho),λs hs hh=> ?_⟩,?_⟩
 ·have:=lr hk;rw[T8 this]at hu;cases hu
 ·decide
 ·rcases hs with rfl|rfl<;>exact List.Pairwise.nil
 ·rcases hs with rfl|rfl<;>cases hr
 ·exact List.Perm.refl _
 ·exact List.nodup_nil
 ·rcases hs with rfl|rfl<;>cases hh
 ·rfl
structure Ei where
 b:dm
 s:Int
 r:xL
 l:List Nat
def Ei.om (i:Ei):List zI:=(i.b.a.fq i.l).map λe=>⟨e.id,i.s,i.r.dj,e.dq,e.top⟩
def C9:fy:=fj Ei (λi=>[.nm 0 0,zA i.s,.agg [zA i.r.dj,zA i.r.queue]]) (λi=>[yA i.b]) (λi=>i.b.a.pd i.r.queue i.l) (λ_=> .own 1) (λi=>[yA i.b,.own 258 5 (i.om.map vG)])
def ySv (i:Ei):List gj:=[{ι:=Nat,du:=λj=>[(7,.own 0),(18,zA j)],rows:=λj=>[.own 258 5 ((i.om.take j).map vG)]}]
def fQ (a:K5):=(aa DV (a.a.fq a.l))
def z9p (i:Ei):Prop:=
 ∃(a:K5),a.n=i.r.queue/\aq dt 3 zF a.a=aq dt 3 zF i.b.a/\a.a.pd a.n a.l/\∀(b:Unit),True->∃(c:Nat),(↑c:Int)=0/\aa vG (ac c i.om)=[]/\∃(d:Nat->Prop),∃(e:Nat->Nat),d c/\∀(f:Nat),d f->dp (decide ((↑f:Int)<(↑(fQ a).length:Int))) ((0<=(↑f:Int)/\(↑f:Int)<(↑(fQ a).length:Int))/\∃(g:Int),∃(h:Int),∃(j:Int),∃(k:Bool),zD (fQ a) (↑f:Int).toNat 0 4=az [dI g,dI h,dI j,D.v (.bool k)]/\((aa vG (ac f i.om)).length+1)*(40:Nat)<=(140737488355328:Nat)/\∃(l:Nat),(↑l:Int)=bo.wrap ((↑f:Int)+1)/\aa vG (ac l i.om)=aa vG (ac f i.om)++[[dI h,dI i.s,dI i.r.dj,dI j,D.v (.bool k)]]/\d l/\e l<e f/\di (aq dt 3 zF a.a)/\di (au 312 4 (fQ a))/\di (ar [V.d (dI i.r.dj),V.d (dI i.r.queue)] 276)/\di (ar [V.nm 1 0,V.own 2,V.own 3,V.mp 4,V.d (dI i.b.gg),V.d (dI i.b.gh),V.own 5,V.d (D.v (.bool i.b.fm)),V.d (D.v (.bool i.b.fp))] (273:ce))/\di (au 276 2 (aa zB i.b.ez))/\di (au 276 2 (aa zB i.b.dv))/\di (aw (iF i.b.at_))/\di (au 3 1 (iE i.b.spare))) (∃(g:Unit),di i.b.gg/\di i.b.gh/\di i.b.fm/\di i.b.fp/\aq dt 3 zF i.b.a=aq dt 3 zF a.a/\di (aa zB i.b.ez)/\di (aa zB i.b.dv)/\di (iF i.b.at_)/\di (iE i.b.spare)/\aa vG i.om=aa vG (ac f i.om)/\True)
def y7j {l:List DB} {k:Nat} {e:DB} (h:l[k]? =az e):zD (l.map DV) k 0 4=az [D.v (.int .i64 e.slot),.v (.int .i64 e.id),.v (.int .i64 e.dq),.v (.bool e.top)]:=jq h (by simp[DV]) rfl
def yPh (i:Ei) (h:C9.dp i):z9p i:=by
 have h:i.b.a.pd i.r.queue i.l:=h;have hl:=h.len;have hen:(i.b.a.fq i.l).length=i.l.length:=by simp[dt.fq]
 have vi:i.om.length=i.l.length:=by simp[Ei.om,dt.fq]
 unfold z9p fQ dI;refine⟨⟨i.b.a,i.r.queue,i.l⟩,rfl,rfl,h,λ_ _=> ?_⟩;simp only[ia];refine⟨0,rfl,rfl,λj=>j<=i.l.length,λj=>i.l.length-j,my _,λj hj=>zH (λc=> ?_) (λc=> ?_)⟩
 ·obtain⟨e,he⟩:=z7 (l:=i.b.a.fq i.l) (i:=j) oM;have ho:i.om[j]? =az ⟨e.id,i.s,i.r.dj,e.dq,e.top⟩:=by rw[Ei.om,uq,he];rfl
  refine⟨⟨oM,oM⟩,e.slot,e.id,e.dq,e.top,y7j he,by rw[oe];omega,j+1,qw oM,?_,oM,Z9,gn⟩;rw[sm,ho];simp[vG]
 ·have EO:j=i.l.length:=by omega
  subst EO;rw[og (l:=i.om) (by omega)]
  exact kp
def zUm:C9.ok Tryz.prog 247:=gw mixed (dw yMv fg) 0 (λ_=>[]) (λi=>ySv i) [0] Tryz.func247 yPh
open Go Go.RowKit Cv
def zZo {P:bz} {tS rt e sz ou:Nat} {z:Array bu} (hi:vT P tS=az (e,sz,ou,z)) {w:bv} {g i c n k:Nat} {A:Option cf} {cur src:List bu} {T:ce}
 (hg:w.heap[g]? =az (.cells cur.toArray T (0,0))) (hs:(be sz n (.slice A n k)).run P w= .ok src.toArray w) (hl:src.length=n*sz) (si:i+n<=c) (Fb:i*sz+n*sz<=cur.length) (DG:∀v∈src,v.nv=ax):
 gH P (bg #[tS,tS] rt #[.slice (az ⟨g,0,ba⟩) i c,.slice A n k]) w (.slice (az ⟨g,0,ba⟩) (i+n) c) (World.iR w g (.cells (jz cur (i*sz) src).toArray T (0,0))):=by
 obtain⟨inf,zv,q1,q2,rfl,rfl,q5,rfl⟩:=kJ hi;have ku:=wP (P:=P) src 0 (i*inf.size) cur w hg oM DG;simp only[Ey]at ku;have GG:∀w,(Builtin.lenOf (.slice A n k)).run P w= .ok n w:=λw=>rfl
 unfold gH bg;simp only[AF,Cx,AS,bind,pure,run_bind,Sem.bind,Sem.run,Cv.run_underlying q1,Cv.run_sizeOf q2,oD,if_false,hs,GG,si,if_true,uD,nw,ku,IK]
def z6q {P:bz} {tS ty e sz ou:Nat} {z:Array bu} (hi:vT P tS=az (e,sz,ou,z)) (hz:z.size=sz) (h1:∀v∈z.toList,v.nv=ax) {w:bv} {g o n c:Nat} {cur:List bu} {T:ce} (hn:0<n)
 (hg:w.heap[g]? =az (.cells cur.toArray T (0,0))) (Fb:o+n*sz<=cur.length):
 gH P (Builtin.clear_ #[tS] ty #[.slice (az ⟨g,o,ba⟩) n c]) w (.tuple #[]) (World.iR w g (.cells (jz cur o (bc z n).toList).toArray T (0,0))):=by
 obtain⟨inf,zv,q1,q2,rfl,rfl,q5,rfl⟩:=kJ hi;have hlz:(bc zv.cells n).toList.length=n*inf.size:=by rw[IV,cd,hz]
 have ku:=wP (P:=P) (bc zv.cells n).toList 0 o cur w hg oM (by
  intro v hv;obtain⟨i,hi,rfl⟩:=List.getElem_of_mem hv;simp only[bc,Array.getElem_toList,Array.getElem_map,Array.getElem_range];have yx:0<zv.cells.size:=by
   rcases Nat.eq_zero_or_pos zv.cells.size with h0|h0
   ·rw[hlz,<- hz,h0]at hi;omega
   ·exact h0
  have gr:i % zv.cells.size<zv.cells.size:=Nat.mod_lt _ yx;rw[getElem!_pos zv.cells (i % zv.cells.size) gr];exact h1 _ (by simp))
 simp only[Ey]at ku;have D6:∀w,(zeroValue e).run P w= .ok zv w:=λw=>lq (by unfold zero?;rw[q2];exact q5) w
 obtain⟨m,rfl⟩:∃m,n=m+1:=⟨n-1,oM⟩
 unfold gH Builtin.clear_;simp only[AF,Cx,AS,bind,pure,run_bind,Sem.bind,Sem.run,Cv.run_underlying q1,D6,ku]
def ZF (P:bz) (tS sz:Nat) (s:Option cf) (sn sk:Nat) (i j:Int) (w:bv) (R:Ending->bv->Prop):Prop:=
ZH s sk i j (sn:Int) sz λa1 na1 ka1=>
dp ((i:Int)==j) (
R (.returned (.slice s sn sk)) w) (
T5 w λw2=>
sy s sn sk ba (az i) sz λa3 na3 ka3=>
sy s sn sk (az j) ba sz λa4 na4 ka4=>
∃(a5:Option cf) (Hk IZ:Nat),∃w6:bv,gH P (bg #[tS,tS] tS #[.slice a3 na3 ka3,.slice a4 na4 ka4]) w2 (.slice a5 Hk IZ) w6/\
sy a5 Hk IZ (az (Hk:Int)) (az (sn:Int)) sz λa7 na7 ka7=>
∃w8:bv,gH P (Builtin.clear_ #[tS] 0 #[.slice a7 na7 ka7]) w6 (.tuple #[]) w8/\
R (.returned (.slice a5 Hk IZ)) w8)
def y8k {P:bz} {tS e sz ou:Nat} {z:Array bu} (hi:vT P tS=az (e,sz,ou,z)) (hz:z.size=sz) (KI:∀v∈z.toList,v.nv=ax)
 {k:Ko} {w:bv} {L:List HP} {s:Option cf} {sn sk i j:Nat} {xs:List bu} (H:Hp k w (oa e sz s sn sk xs::L)) (h1:∀u∈xs,u.nv=ax) (Jc:i<j) (hj:j<=sn):
 ZF P tS sz s sn sk i j w λen w'=>∃a kk,en= .returned (.slice a (sn-(j-i)) kk)/\Hp k w' (oa e sz a (sn-(j-i)) kk (xs.take (i*sz)++xs.drop (j*sz))::L):=by
 obtain⟨AG,Hu⟩:=H.len;rcases H.ov with⟨_,e0,_⟩|⟨b,r,rfl,g1,g2,g3,H0⟩
 ·omega
 have hle:i*sz<=xs.length:=by rw[AG];exact wj _ oM
 have aaM:j*sz<=xs.length:=by rw[AG];exact wj _ hj
 have GK:(xs.drop (j*sz)).length=(sn-j)*sz:=by rw[oV,AG,Nat.sub_mul]
 have B9:i*sz+(sn-j)*sz=(sn-(j-i))*sz:=by rw[<- zc];congr 1;omega
 have JJ:i*sz+(sn-j)*sz+(j-i)*sz=sn*sz:=by rw[<- zc,<- zc];congr 1;omega
 have aa5:j*sz+(sn-j)*sz=sn*sz:=by rw[<- zc];congr 1;omega
 have hlen:(xs++r).length=xs.length+r.length:=im;unfold ZF;simp only[ZH,sy,ow];refine⟨⟨oM,oM,oM,oM⟩,Cv.dp.mk (λc=>absurd c (by simp;omega)) λ_=> ?_⟩;rintro _ rfl;have H1:=H0.drew;have DF:(be sz (sn-j) (.slice (if sk=j then az ⟨b,0,ba⟩else(az ⟨b,0,ba⟩:Option cf).map (·.add (j*sz))) (sn-j) (sk-j))).run P w.drew= .ok (xs.drop (j*sz)).toArray w.drew:=by
  by_cases h0:(sn-j)*sz=0
  ·have:xs.drop (j*sz)=[]:=xu oM;rw[this];by_cases hk:sk=j
   ·rw[fc hk];unfold be;rw[h0];rfl
   ·rw[ej hk,vw,uD];unfold be;rw[h0];rfl
  ·have hk:sk≠j:=by rintro rfl;have:sn-sk=0:=by omega
                    rw[this]at h0;simp at h0
   rw[ej hk,vw,uD];unfold be;rw[gN H1.get (by rw[hlen];omega)];rw[nw,ED aaM,xq (by omega),og (by omega)]
 refine⟨⟨oM,oM⟩,⟨oM,oM,Hu⟩,_,_,_,_,zZo (i:=i) (c:=sk) hi H1.get DF GK oM (by rw[hlen];omega) (λv hv=>h1 v (IW hv)),⟨oM,oM,oM⟩,?_⟩;have H2:=H1.yj (.cells (jz (xs++r) (i*sz) (xs.drop (j*sz))).toArray e);have e1:i+(sn-j)=sn-(j-i):=by omega
 rw[ej (show sk≠i+(sn-j)by omega),vw,uD,nw,e1];have Qn:jz (xs++r) (i*sz) (xs.drop (j*sz))=(xs.take (i*sz)++xs.drop (j*sz))++(xs++r).drop ((sn-(j-i))*sz):=by
  simp only[jz];rw[xq hle,GK,B9]
 rw[Qn]at H2;have hA:(xs.take (i*sz)++xs.drop (j*sz)).length=(sn-(j-i))*sz:=by
  rw[im,oe,GK];omega
 have hB:((xs++r).drop ((sn-(j-i))*sz)).length=(j-i)*sz+r.length:=by
  rw[oV,hlen];omega
 rw[Qn];have hn:sn-(sn-(j-i))=j-i:=by omega
 rw[hn];refine⟨_,z6q hi hz KI oM H2.get (by rw[im,hA,hB];omega),_,_,rfl,?_⟩;have H3:=H2.yj (.cells (jz (xs.take (i*sz)++xs.drop (j*sz)++(xs++r).drop ((sn-(j-i))*sz)) ((sn-(j-i))*sz) (bc z (j-i)).toList).toArray e);have es:=U1 (xs.take (i*sz)++xs.drop (j*sz)) ((xs++r).drop ((sn-(j-i))*sz)) (bc z (j-i)).toList;rw[hA]at es;rw[es]at H3;rw[es];rw[jd (xs.take (i*sz)++xs.drop (j*sz))]at H3 ⊢;have CC:(bc z (j-i)).toList.length=(j-i)*sz:=by rw[IV,cd,hz]
 refine H3.Aj hA ?_ oM;rw[im,hA,im,CC,oV,hB,<- g2,hlen,AG];omega
structure ZI where
 eg:List (List D)
 i:Nat
 j:Nat
def ZP (e sz:Nat):fy where
 ι:=ZI
 pat:=λi=>[.own 0,.d (.v (.int .i64 i.i)),.d (.v (.int .i64 i.j))]
 pre:=λi=>[.own e sz i.eg]
 dp:=λi=>i.i<i.j/\i.j<=i.eg.length
 alts:=λi=>[{o:=Unit,res:=λ_=> .own 1,post:=λ_=>[.gone,.own e sz (i.eg.take i.i++i.eg.drop i.j)],rel:=λ_=>True}]
def Ih {P:bz} (hm:P.follows .mixedOrders=ax) {tS e sz ou fI:Nat} {z:Array bu} {fn:Func} {c:Code} (hf:P.funcs[fI]? =az fn) (hb:fn.body=az c) (BF:uP P fI=ax) (oK:wm fn.ntmps c=ax) (KO:okF [] c=ax) (K6:Nat.ble 3 fn.ntmps=ax)
 (hi:vT P tS=az (e,sz,ou,z)) (hz:z.size=sz) (KI:∀v∈z.toList,v.nv=ax)
 (heq:∀(s:Option cf) (sn sk:Nat) (i j:Int) (w:bv) (R:Ending->bv->Prop),ZF P tS sz s sn sk i j w R=Ef P [] c (RG P fn R) (hJ [.slice s sn sk,.int .i64 i,.int .i64 j]) w):
 (ZP e sz).ok P fI:=by
 intro i hc k L E w ys R hv;obtain⟨c1,c2⟩:i.i<i.j/\i.j<=i.eg.length:=hc;simp only[ZP,gp,VR,DR]at hv;obtain⟨y0,_,rfl,⟨l0,e0,_⟩,y1,_,rfl,⟨rfl,_⟩,y2,_,rfl,⟨rfl,_⟩,rfl⟩:=hv;obtain⟨s,sk,xs,aaa,g1,vh,hu,H⟩:=R.rn (n:=0) (t:=e) (sz:=sz) (eg:=i.eg) rfl;rw[e0]at g1;cases g1;have H2:Hp k w (oa e sz s i.eg.length sk xs::fz E.F::L):=H;have hv:=y8k hi hz KI H2 vh.one c1 c2;have vt:=zLb (args:=[.slice s i.eg.length sk,.int .i64 i.i,.int .i64 i.j]) hm hf hb [] oK KO K6 (heq s i.eg.length sk i.i i.j w _) hv;refine aZ BF (vt.mono ?_);rintro en w' ⟨a,kk,rfl,H3⟩;have hl:(i.eg.take i.i++i.eg.drop i.j).length=i.eg.length-(i.j-i.i):=by
  rw[im,oe,oV];omega
 have H4:Hp k w' (oa e sz a (i.eg.take i.i++i.eg.drop i.j).length kk (xs.take (i.i*sz)++xs.drop (i.j*sz))::(([]:List (Nat×ff)).map (gu E)++fz E.F::L)):=by
  rw[hl];exact H3
 obtain⟨E',r1,r2,r3⟩:=cY (nx:=1) R.nx (by
  rw[MP,<- rN i.i hu,<- pE i.j hu];exact(vh.take _).append (vh.drop _)) (λx hx=>by
   rcases pn.1 hx with hx|hx
   ·exact hu x (MS hx)
   ·exact hu x (IW hx)) H4
 rw[hl]at r3;refine⟨_,rfl,_,vf.2 rfl,(),trivial,E',r1,r3,⟨r2.nx,?_⟩⟩;exact((@hP k w' True _).2 ⟨trivial,r2.hp⟩).imp (B:=gu E' (0,.gone)) λx hx=> .inl ⟨rfl,hx.2⟩
def nV (k:Int):List (Int×Place)->List (Int×Place)
 |[]=>[]
 |(a,b)::l=>if k=a then l else(a,b)::nV k l
structure CR where
 b:dm
 id:Int
 dj:Int
 slot:Int
def dm.ju (b:dm) (s id:Int):dm:=if b.mh s=ax/\b.iU s=id then(if s=1 then{b with fm:=ay}else{b with fp:=ay})else b
def dm.iG (b:dm) (s id dj:Int):dm:=
 if(b.a.pw ((b.dy s).getD (zZ s (b.dy s) dj) ⟨0,0⟩).queue).count=0 then
  ({b.ju s id with at_:=nV id b.at_,spare:=b.spare++[((b.dy s).getD (zZ s (b.dy s) dj) ⟨0,0⟩).queue]}:dm).qt s ((b.dy s).take (zZ s (b.dy s) dj)++(b.dy s).drop (zZ s (b.dy s) dj+1))
 else{b.ju s id with at_:=nV id b.at_}
def yOf (b:dm):ff:= .cells [.nm 1 0,.own 6,.own 7,.mp 4,zA b.gg,zA b.gh,.own 8,yL b.fm,yL b.fp] 273
@[reducible] def yVd (b:dm):List ff:=[yOf b,zQ b 1,.gone,.gone,zQ b 4,.gone,zQ b 2,zQ b 3,zQ b 5]
@[reducible] def CR.ok (i:CR) (s:Int):Prop:=i.b.small/\zZ s (i.b.dy s) i.dj<(i.b.dy s).length
def yIi (s:Int):fy:=fj CR (λi=>[.nm 0 0,zA i.id,.agg [zA s,zA i.dj,zA i.slot]]) (λi=>Is i.b) (λi=>i.ok s) (λ_=>c9) (λi=>yVd (i.b.iG s i.id i.dj))
def FP:fy:=yIi 1
def FO:fy:=yIi 2
structure DrJ where
 i:CR
 s:Bool
def Ro:fy:=fj DrJ (λj=>[.nm 0 0,zA j.i.id,.agg [zA (zC j.s),zA j.i.dj,zA j.i.slot]]) (λj=>Is j.i.b) (λj=>j.i.ok (zC j.s)) (λ_=>c9) (λj=>yVd (j.i.b.iG (zC j.s) j.i.id j.i.dj))
def Rq:fy:=ZP 276 2
def y0p:zI:=⟨0,0,0,0,ay⟩
def cL (L:List zI) (id:Int):zI:=(L.find? λo=>decide (o.id=id)).getD y0p
def h9 (L:List zI) (id q:Int):List zI:=L.filterMap λo=>if o.id=id then(if o.dq=q then ba else az {o with dq:=o.dq-q})else az o
def qB (L:List zI) (id q:Int):List zI×Int:=if wU L id=ay then(L,26)else if q<1\/(cL L id).dq<q then(L,24)else(h9 L id q,0)
def uu (L:List zI) (s p:Int):List zI:=L.filter λo=>decide (o.side=s) && decide (o.dj=p)
def wy:List zI->List Lv
 |[]=>[]
 |o::l=>match wy l with
  |[]=>[⟨o.dj,o.dq,1⟩]
  |v::vs=>if v.dj=o.dj then⟨v.dj,o.dq+v.dq,v.count+1⟩::vs else⟨o.dj,o.dq,1⟩::v::vs
def gL (L:List zI) (s:Int):List Lv:=wy (L.filter λo=>decide (o.side=s))
def iA (L:List zI) (s:Int):Lv×Bool:=match gL L s with
 |[]=>(⟨0,0,0⟩,ay)
 |v::_=>(v,ax)
structure HI where
 b:dm
 L:List zI
structure B6 where
 b:dm
 L:List zI
 id:Int
 dq:Int
structure HJ where
 b:dm
 L:List zI
 s:Bool
 dj:Int
def JS:fy where
 ι:=B6
 pat:=λi=>[.nm 0 0,zA i.id,zA i.dq]
 pre:=λi=>[yA i.b]
 dp:=λi=>i.b.fk i.L
 alts:=λi=>[{o:=dm,res:=λ_=>zA (qB i.L i.id i.dq).2,post:=λb=>[yA b],rel:=λb=>b.fk (qB i.L i.id i.dq).1}]
def FV:fy:=fj B6 (λi=>[.nm 0 0,zA i.id]) (λi=>[yA i.b]) (λi=>i.b.fk i.L) (λi=> .iW [Mz (cL i.L i.id),yL (wU i.L i.id)]) (λi=>[yA i.b])
def y4b (s:Bool):fy:=fj HJ (λi=>[.nm 0 0,zA (zC s),zA i.dj]) (λi=>[yA i.b]) (λi=>i.b.fk i.L) (λ_=> .own 1) (λi=>[yA i.b,.own 258 5 ((uu i.L (zC s) i.dj).map vG)])
def Qv:fy:=y4b ay
def Qu:fy:=y4b ax
def atC:fy:=fj HJ (λi=>[.nm 0 0,zA (zC i.s),zA i.dj]) (λi=>[yA i.b]) (λi=>i.b.fk i.L) (λ_=> .own 1) (λi=>[yA i.b,.own 258 5 ((uu i.L (zC i.s) i.dj).map vG)])
def xC (a:CR):=(a.b.iG 1 a.id a.dj)
def Xz (a:oG) (b:CR):Prop:=a.b.fp=b.b.fp/\aq dt 3 zF a.b.a=zQ b.b 1/\aa zB a.b.ez=aa zB b.b.ez/\aa zB a.b.dv=aa zB b.b.dv/\iF a.b.at_=Bx (cg bo b.id) (iF b.b.at_)/\iE a.b.spare=iE b.b.spare/\(qF a)/\∀(c:Unit),True->(fN a)/\∃(d:Int),zD (aa zB a.b.ez) (xW a).toNat 1 1=az [dI d]/\∃(e:vp),e.n=d/\aq dt 3 zF e.a=aq dt 3 zF a.b.a/\True/\∀(f:Unit),True->dp ((e.a.pw e.n).count==0) (((iE a.b.spare).length+1)*(8:Nat)<=(140737488355328:Nat)/\∃(g:ZI),(↑g.i:Int)=(xW a)/\(↑g.j:Int)=bo.wrap ((xW a)+1)/\g.eg=aa zB a.b.ez/\(g.i<g.j/\g.j<=g.eg.length)/\∀(h:Unit),True->di ((1:Int))/\∃(j:Unit),(xC b).gg=a.b.gg/\(xC b).gh=a.b.gh/\(xC b).fm=a.b.fm/\(xC b).fp=a.b.fp/\aq dt 3 zF (xC b).a=aq dt 3 zF e.a/\iF (xC b).at_=iF a.b.at_/\aa zB (xC b).ez=ac g.i g.eg++ap g.j g.eg/\aa zB (xC b).dv=aa zB a.b.dv/\iE (xC b).spare=iE a.b.spare++[[dI d]]/\True) (∃(g:Unit),(xC b).gg=a.b.gg/\(xC b).gh=a.b.gh/\(xC b).fm=a.b.fm/\(xC b).fp=a.b.fp/\aq dt 3 zF (xC b).a=aq dt 3 zF e.a/\iF (xC b).at_=iF a.b.at_/\aa zB (xC b).ez=aa zB a.b.ez/\aa zB (xC b).dv=aa zB a.b.dv/\iE (xC b).spare=iE a.b.spare/\True)
def Xh (a:CR):Prop:=∃(b:oG),di ((1:Int))/\b.dj=a.dj/\b.b.gg=a.b.gg/\b.b.gh=a.b.gh/\b.b.fm=a.b.fm/\Xz b a
def yLe (i:CR):Prop:=
 (∀(a:bu×List D),a∈iF i.b.at_->lj (cg bo i.id) a.fst=ax)/\dp i.b.fm (dp (i.b.gg==i.id) (∃(a:oG),di ((1:Int))/\a.dj=i.dj/\a.b.gg=i.b.gg/\a.b.gh=i.b.gh/\a.b.fm=ay/\Xz a i) (Xh i)) (Xh i)
def xB (a:CR):=(a.b.iG 2 a.id a.dj)
def WO (a:oG) (b:CR):Prop:=aq dt 3 zF a.b.a=zQ b.b 1/\aa zB a.b.ez=aa zB b.b.ez/\aa zB a.b.dv=aa zB b.b.dv/\iF a.b.at_=Bx (cg bo b.id) (iF b.b.at_)/\iE a.b.spare=iE b.b.spare/\(qF a)/\∀(c:Unit),True->(g9 a)/\∃(d:Int),zD (aa zB a.b.dv) (xU a).toNat 1 1=az [dI d]/\∃(e:vp),e.n=d/\aq dt 3 zF e.a=aq dt 3 zF a.b.a/\True/\∀(f:Unit),True->dp ((e.a.pw e.n).count==0) (((iE a.b.spare).length+1)*(8:Nat)<=(140737488355328:Nat)/\∃(g:ZI),(↑g.i:Int)=(xU a)/\(↑g.j:Int)=bo.wrap ((xU a)+1)/\g.eg=aa zB a.b.dv/\(g.i<g.j/\g.j<=g.eg.length)/\∀(h:Unit),True->di ((2:Int))/\∃(j:Unit),(xB b).gg=a.b.gg/\(xB b).gh=a.b.gh/\(xB b).fm=a.b.fm/\(xB b).fp=a.b.fp/\aq dt 3 zF (xB b).a=aq dt 3 zF e.a/\iF (xB b).at_=iF a.b.at_/\aa zB (xB b).ez=aa zB a.b.ez/\aa zB (xB b).dv=ac g.i g.eg++ap g.j g.eg/\iE (xB b).spare=iE a.b.spare++[[dI d]]/\True) (∃(g:Unit),(xB b).gg=a.b.gg/\(xB b).gh=a.b.gh/\(xB b).fm=a.b.fm/\(xB b).fp=a.b.fp/\aq dt 3 zF (xB b).a=aq dt 3 zF e.a/\iF (xB b).at_=iF a.b.at_/\aa zB (xB b).ez=aa zB a.b.ez/\aa zB (xB b).dv=aa zB a.b.dv/\iE (xB b).spare=iE a.b.spare/\True)
def WZ (a:CR):Prop:=∃(b:oG),di ((2:Int))/\b.dj=a.dj/\b.b.gg=a.b.gg/\b.b.gh=a.b.gh/\b.b.fm=a.b.fm/\b.b.fp=a.b.fp/\WO b a
def yGu (i:CR):Prop:=
 (∀(a:bu×List D),a∈iF i.b.at_->lj (cg bo i.id) a.fst=ax)/\dp i.b.fp (dp (i.b.gh==i.id) (∃(a:oG),di ((2:Int))/\a.dj=i.dj/\a.b.gg=i.b.gg/\a.b.gh=i.b.gh/\a.b.fm=i.b.fm/\a.b.fp=ay/\WO a i) (WZ i)) (WZ i)
def Yo (a:B6):Prop:=aa zB a.b.ez=aa zB a.b.ez/\di (aa zB a.b.dv)/\di (iF a.b.at_)/\di (iE a.b.spare)/\True
def WM (a:Int) (b:B6) (c:Int) (d:Int):Prop:=∃(e:vp),e.n=a/\aq dt 3 zF e.a=aq dt 3 zF b.b.a/\e.a.du.length<=1000000/\∀(f:Unit),True->∃(g:Unit),(cL b.L b.id).id=b.id/\(cL b.L b.id).side=c/\(cL b.L b.id).dj=d/\(cL b.L b.id).dq=(e.a.mz e.n).fst.dq/\(cL b.L b.id).top=(e.a.mz e.n).fst.top/\wU b.L b.id=ax/\di b.b.gg/\di b.b.gh/\di b.b.fm/\di b.b.fp/\aq dt 3 zF b.b.a=aq dt 3 zF e.a/\Yo b
def rX (a:B6) (b:Int) (c:Int) (d:Int) (e:Bool):Prop:=kO (cg bo a.id) (iF a.b.at_)=az [dI b,dI c,dI d]/\e=ax\/kO (cg bo a.id) (iF a.b.at_)=ba/\[dI b,dI c,dI d]=[dI 0,dI 0,dI 0]/\e=ay
def yMa (i:B6):Prop:=
 (∀(a:bu×List D),a∈iF i.b.at_->lj (cg bo i.id) a.fst=ax)/\∃(a:Bool),∃(b:Int),∃(c:Int),∃(d:Int),(rX i b c d a)/\dp (!a) (∃(e:Unit),(cL i.L i.id).id=0/\(cL i.L i.id).side=0/\(cL i.L i.id).dj=0/\(cL i.L i.id).dq=0/\(cL i.L i.id).top=ay/\wU i.L i.id=ay/\di i.b.gg/\di i.b.gh/\di i.b.fm/\di i.b.fp/\di (aq dt 3 zF i.b.a)/\Yo i) ((WM d i b c)/\d=d/\True/\WM d i b c)
def Tp (a:dm) (b:B6):Prop:=aa zB a.ez=aa zB b.b.ez/\aa zB a.dv=aa zB b.b.dv/\iF a.at_=iF b.b.at_/\iE a.spare=iE b.b.spare/\a.fk (qB b.L b.id b.dq).fst
def vO (a:DrJ):=(a.i.b.iG (zC a.s) a.i.id a.i.dj)
def VG (a:B6) (b:Int) (c:Int) (d:Int) (e:vp):Prop:=∃(f:DrJ),f.i.id=a.id/\zC f.s=b/\f.i.dj=c/\f.i.slot=d/\f.i.b.gg=a.b.gg/\f.i.b.gh=a.b.gh/\f.i.b.fm=a.b.fm/\f.i.b.fp=a.b.fp/\aq dt 3 zF f.i.b.a=aq dt 3 zF e.a/\aa zB f.i.b.ez=aa zB a.b.ez/\aa zB f.i.b.dv=aa zB a.b.dv/\iF f.i.b.at_=iF a.b.at_/\iE f.i.b.spare=iE a.b.spare/\(((f.i.b.a.du.length<=1000000/\f.i.b.a.dx.length<=1000000)/\f.i.b.ez.length<=1000000/\f.i.b.dv.length<=1000000/\f.i.b.spare.length<=1000000)/\zZ (zC f.s) (f.i.b.dy (zC f.s)) f.i.dj<(f.i.b.dy (zC f.s)).length)/\∀(g:Unit),True->∃(h:dm),(qB a.L a.id a.dq).snd=0/\h.gg=(vO f).gg/\h.gh=(vO f).gh/\h.fm=(vO f).fm/\h.fp=(vO f).fp/\aq dt 3 zF h.a=aq dt 3 zF (vO f).a/\aa zB h.ez=aa zB (vO f).ez/\aa zB h.dv=aa zB (vO f).dv/\iF h.at_=iF (vO f).at_/\iE h.spare=iE (vO f).spare/\h.fk (qB a.L a.id a.dq).fst
def V4 (a:Int) (b:B2) (c:B6) (d:Int) (e:Int):Prop:=∃(f:vp),f.n=a/\aq dt 3 zF f.a=aq dt 3 zF (b.a.gf b.n b.dq).fst/\f.a.du.length<=1000000/\∀(g:Unit),True->dp (!(f.a.mz f.n).snd) (VG c d e a f) (dp ((f.a.mz f.n).fst.id !=c.id) (VG c d e a f) (∃(h:dm),(qB c.L c.id c.dq).snd=0/\h.gg=c.b.gg/\h.gh=c.b.gh/\h.fm=c.b.fm/\h.fp=c.b.fp/\aq dt 3 zF h.a=aq dt 3 zF f.a/\Tp h c))
def yVk (i:B6):Prop:=
 (∀(a:bu×List D),a∈iF i.b.at_->lj (cg bo i.id) a.fst=ax)/\∃(a:Bool),∃(b:Int),∃(c:Int),∃(d:Int),(rX i b c d a)/\dp (!a) (∃(e:dm),(qB i.L i.id i.dq).snd=26/\e.gg=i.b.gg/\e.gh=i.b.gh/\e.fm=i.b.fm/\e.fp=i.b.fp/\aq dt 3 zF e.a=aq dt 3 zF i.b.a/\Tp e i) (∃(e:B2),e.n=d/\e.dq=i.dq/\aq dt 3 zF e.a=aq dt 3 zF i.b.a/\(e.a.du.length<=1000000/\∀(k:Nat) (s:Slot),e.a.du[k]?=az s->s.used=ax->(0<=s.queue/\s.queue<(↑e.a.dx.length:Int))/\s.dq<=1000000/\(s.ahead=(-1)\/0<=s.ahead/\s.ahead<(↑e.a.du.length:Int)/\s.ahead≠(↑k:Int))/\(s.back=(-1)\/0<=s.back/\s.back<(↑e.a.du.length:Int)/\s.back≠(↑k:Int)))/\∀(f:Unit),True->dp ((e.a.gf e.n e.dq).snd !=0) (∃(g:dm),(qB i.L i.id i.dq).snd=(e.a.gf e.n e.dq).snd/\g.gg=i.b.gg/\g.gh=i.b.gh/\g.fm=i.b.fm/\g.fp=i.b.fp/\aq dt 3 zF g.a=aq dt 3 zF (e.a.gf e.n e.dq).fst/\Tp g i) ((V4 d e i b c)/\d=d/\True/\V4 d e i b c))
def y4r (i:HJ):Prop:=
 ∃(a:Int),a=zC ay/\True/\∀(b:Unit),True->dp (qY a) (∃(c:Unit),di i.b.gg/\di i.b.gh/\di i.b.fm/\di i.b.fp/\di (aq dt 3 zF i.b.a)/\di (aa zB i.b.ez)/\di (aa zB i.b.dv)/\di (iF i.b.at_)/\di (iE i.b.spare)/\aa vG (uu i.L (zC ay) i.dj)=[]/\True) (∃(c:oG),1=zC ay/\c.dj=i.dj/\c.b.gg=i.b.gg/\c.b.gh=i.b.gh/\c.b.fm=i.b.fm/\c.b.fp=i.b.fp/\aq dt 3 zF c.b.a=aq dt 3 zF i.b.a/\aa zB c.b.ez=aa zB i.b.ez/\aa zB c.b.dv=aa zB i.b.dv/\iF c.b.at_=iF i.b.at_/\iE c.b.spare=iE i.b.spare/\(qF c)/\∀(d:Unit),True->dp (!kP 1 (c.b.dy 1) c.dj) (∃(e:Unit),i.b.gg=c.b.gg/\i.b.gh=c.b.gh/\i.b.fm=c.b.fm/\i.b.fp=c.b.fp/\aq dt 3 zF i.b.a=aq dt 3 zF c.b.a/\aa zB i.b.ez=aa zB c.b.ez/\aa zB i.b.dv=aa zB c.b.dv/\iF i.b.at_=iF c.b.at_/\iE i.b.spare=iE c.b.spare/\aa vG (uu i.L (zC ay) i.dj)=[]/\True) ((fN c)/\∃(e:Int),∃(f:Int),zD (aa zB c.b.ez) (xW c).toNat 0 2=az [dI e,dI f]/\∃(g:Ei),g.s=zC ay/\g.r.dj=e/\g.r.queue=f/\g.b.gg=c.b.gg/\g.b.gh=c.b.gh/\g.b.fm=c.b.fm/\g.b.fp=c.b.fp/\aq dt 3 zF g.b.a=aq dt 3 zF c.b.a/\aa zB g.b.ez=aa zB c.b.ez/\aa zB g.b.dv=aa zB c.b.dv/\iF g.b.at_=iF c.b.at_/\iE g.b.spare=iE c.b.spare/\g.b.a.pd g.r.queue g.l/\∀(h:Unit),True->∃(j:Unit),yA i.b=yA g.b/\aa vG (uu i.L (zC ay) i.dj)=aa vG g.om/\True))
def y3o (i:HJ):Prop:=
 ∃(a:Int),a=zC ax/\True/\∀(b:Unit),True->dp (qY a) (∃(c:Unit),di i.b.gg/\di i.b.gh/\di i.b.fm/\di i.b.fp/\di (aq dt 3 zF i.b.a)/\di (aa zB i.b.ez)/\di (aa zB i.b.dv)/\di (iF i.b.at_)/\di (iE i.b.spare)/\aa vG (uu i.L (zC ax) i.dj)=[]/\True) (∃(c:oG),2=zC ax/\c.dj=i.dj/\c.b.gg=i.b.gg/\c.b.gh=i.b.gh/\c.b.fm=i.b.fm/\c.b.fp=i.b.fp/\aq dt 3 zF c.b.a=aq dt 3 zF i.b.a/\aa zB c.b.ez=aa zB i.b.ez/\aa zB c.b.dv=aa zB i.b.dv/\iF c.b.at_=iF i.b.at_/\iE c.b.spare=iE i.b.spare/\(qF c)/\∀(d:Unit),True->dp (!kP 2 (c.b.dy 2) c.dj) (∃(e:Unit),i.b.gg=c.b.gg/\i.b.gh=c.b.gh/\i.b.fm=c.b.fm/\i.b.fp=c.b.fp/\aq dt 3 zF i.b.a=aq dt 3 zF c.b.a/\aa zB i.b.ez=aa zB c.b.ez/\aa zB i.b.dv=aa zB c.b.dv/\iF i.b.at_=iF c.b.at_/\iE i.b.spare=iE c.b.spare/\aa vG (uu i.L (zC ax) i.dj)=[]/\True) ((g9 c)/\∃(e:Int),∃(f:Int),zD (aa zB c.b.dv) (xU c).toNat 0 2=az [dI e,dI f]/\∃(g:Ei),g.s=zC ax/\g.r.dj=e/\g.r.queue=f/\g.b.gg=c.b.gg/\g.b.gh=c.b.gh/\g.b.fm=c.b.fm/\g.b.fp=c.b.fp/\aq dt 3 zF g.b.a=aq dt 3 zF c.b.a/\aa zB g.b.ez=aa zB c.b.ez/\aa zB g.b.dv=aa zB c.b.dv/\iF g.b.at_=iF c.b.at_/\iE g.b.spare=iE c.b.spare/\g.b.a.pd g.r.queue g.l/\∀(h:Unit),True->∃(j:Unit),yA i.b=yA g.b/\aa vG (uu i.L (zC ax) i.dj)=aa vG g.om/\True))
def sI {L:List zI} (h:(L.map (·.id)).Nodup) {o:zI} (ho:o∈L):cL L o.id=o:=by
 induction L with
 |nil=>cases ho
 |cons x L ih=>
  rw[jo,ze]at h;rw[cL,MJ];rcases mf.1 ho with rfl|ho
  ·rw[lg rfl];rfl
  ·have:x.id≠o.id:=λe=>h.1 (e▸su (f:=(·.id)) ho)
   rw[kr this];exact ih h.2 ho
def mK {α β:Type} {f g:α->Option β}:∀{l:List α},(∀x∈l,f x=g x)->l.filterMap f=l.filterMap g
 |[],_=>rfl
 |x::l,h=>by rw[List.filterMap_cons,List.filterMap_cons,h x ji,mK λy hy=>h y (jw _ hy)]
def yYc {L:List zI} {id:Int} (h:wU L id=ay):cL L id=y0p:=by
 rw[cL];have:L.find? (λo=>decide (o.id=id))=ba:=by
  rw[List.find?_eq_none];intro o ho;rw[wU,MM]at h;exact h o ho
 rw[this];rfl
structure Told (b:dm) (Q:List (List Nat)) (id:Int) (s:Int) (r:xL) (k:Nat):Prop where
 hs:s=1\/s=2
 hr:r∈b.dy s
 hk:k∈xD Q r
 e:kf b.at_ id=az ⟨s,r.dj,k⟩
 ident:(b.a.ei k).id=id
 get:cL (b.flat Q) id=vJ b.a s r.dj k
 has:wU (b.flat Q) id=ax
def yOa {b:dm} {Q:List (List Nat)} {s:Int} (hs:s=1\/s=2) {r:xL} (hr:r∈b.dy s) {k:Nat} (hk:k∈xD Q r):vJ b.a s r.dj k∈b.flat Q:=
 Br hs (AB.2 ⟨r,hr,su hk⟩)
def dm.Core.told {b:dm} {Q:List (List Nat)} (c:b.Core Q (-1)) (id:Int):(kf b.at_ id=ba/\wU (b.flat Q) id=ay)\/∃s r k,Told b Q id s r k:=by
 cases hg:kf b.at_ id with
 |none=>
  have:=Xi hg;rw[c.zn.mem_iff,<- jx]at this;exact .inl ⟨rfl,by simpa using this⟩
 |some x=>
  obtain⟨k,r,hs,hr,hk,hx,AI⟩:=c.PY (lQ hg);have hm:=yOa hs hr hk;have jv:=sI c.ids hm;have e:(vJ b.a x.side r.dj k).id=id:=AI;rw[e]at jv;exact .inr ⟨x.side,r,k,hs,hr,hk,by rw[hg];exact congrArg az hx,AI,jv,jx.2 (by rw[<- e];exact su hm)⟩
def Told.only {b:dm} {Q:List (List Nat)} (c:b.Core Q (-1)) {id s:Int} {r:xL} {k:Nat} (h:Told b Q id s r k) {s':Int} (iI:s'=1\/s'=2) {r':xL} (ob:r'∈b.dy s') {j:Nat} (hj:j∈xD Q r'):(b.a.ei j).id=id↔j=k:=by
 constructor
 ·intro e;have h1:=c.EF iI ob hj;have h2:=c.EF h.hs h.hr h.hk;rw[e]at h1;rw[h.ident]at h2;have:=congrArg Place.slot (Sf c.keys h1 h2);dsimp only at this;omega
 ·rintro rfl;exact h.ident
def dm.Core.less {b:dm} {Q:List (List Nat)} (c:b.Core Q (-1)) (ht:b.Ba (b.flat Q)) {id s:Int} {r:xL} {k:Nat} (h:Told b Q id s r k) {q:Int} (hq:1<=q/\q<(b.a.ei k).dq):
 (b.a.gf k q).2=0/\({b with a:=(b.a.gf k q).1}:dm).fk (h9 (b.flat Q) id q)/\(b.a.gf k q).1.du.length=250/\(b.a.gf k q).1.mz k=((((b.a.gf k q).1.ei k)).oX,ax)/\((b.a.gf k q).1.ei k).id=id:=by
 obtain⟨t1,t2,t3⟩:=c.wf.take (c.get h.hs h.hr) h.hk (q:=q) ⟨hq.1,oM⟩;rw[ej (by omega)]at t3;obtain⟨w,t4,t5⟩:=t3;have DI:∀j,((b.a.gf k q).1.ei j).oX=if j=k then{(b.a.ei k).oX with dq:=(b.a.ei k).dq-q}else(b.a.ei j).oX:=by
  intro j;split
  ·rename_i e;rw[e,t4];rfl
  ·rename_i e;exact(t2 j e).1
 have AI:∀j,((b.a.gf k q).1.ei j).id=(b.a.ei j).id:=by
  intro j;have:=congrArg DB.id (DI j);split at this
  ·rename_i e;rw[e]at this ⊢;exact this
  ·exact this
 have rk:({b with a:=(b.a.gf k q).1}:dm).flat Q=h9 (b.flat Q) id q:=by
  have side:∀s',s'=1\/s'=2->({b with a:=(b.a.gf k q).1}:dm).ie Q s'=h9 (b.ie Q s') id q:=by
   intro s' iI;rw[h9,dm.ie,dm.ie,List.filterMap_flatMap];refine xE λr' ob=> ?_
   rw[dm.gv,dm.gv,List.filterMap_map];have:(xD Q r').filterMap (λj=>az (vJ (b.a.gf k q).1 s' r'.dj j))=(xD Q r').map (vJ (b.a.gf k q).1 s' r'.dj):=by rw[<- List.filterMap_eq_map];rfl
   refine this.symm.trans (mK λj hj=> ?_);simp only[cm,vJ,ZW,DI];have UE:=h.only c iI ob hj;by_cases e:j=k
   ·subst e;rw[fc rfl];refine((fc (show(b.a.ei j).oX.id=id from h.ident)).trans (ej λe=> ?_)).symm;have e:(b.a.ei j).dq=q:=e;omega
   ·rw[ej e];exact(ej (λe2=>e (UE.1 e2))).symm
  rw[dm.flat,side 1 (.inl rfl),side 2 (.inr rfl),dm.flat,h9,h9,h9,List.filterMap_append]
 have hu:(b.a.gf k q).1.iw k=ax:=by
  obtain⟨ra,⟨_,_,h2⟩,h3⟩:=w.toyf.mem (c.get h.hs h.hr) h.hk;have gr:=w.len;simp only[dt.iw,kx,tw,ow];exact⟨oM,oM,h2.used⟩
 refine⟨t1,⟨Q,c.flag w AI,⟨λo ho=> ?_,λs' iI hh=> ?_⟩,rk.symm⟩,w.len,by rw[dt.mz,fc hu,ow],by rw[AI,h.ident]⟩
 ·obtain⟨o',oz,e⟩:=MN.1 ho;have:=ht.fl o' oz;split at e
  ·split at e
   ·cases e
   ·cases e;exact this
  ·cases e;exact this
 ·obtain⟨o,ho,o1,o2⟩:=ht.th s' iI hh;by_cases e:o.id=id
  ·refine⟨{o with dq:=o.dq-q},MN.2 ⟨o,ho,?_⟩,o1,o2⟩;have hg:=sI c.ids ho;rw[e,h.get]at hg;rw[fc e,ej (λe2=>by
    rw[<- hg]at e2;have:(b.a.ei k).dq=q:=e2;omega)]
  ·exact⟨o,MN.2 ⟨o,ho,ej e⟩,o1,o2⟩
def yBr:∀{l:List (Int×Place)} {k:Int},(l.map (·.1)).Nodup->nV k l=l.filter λx=> !decide (x.1=k)
 |[],k,_=>rfl
 |(a,b)::l,k,h=>by
  rw[jo,ze]at h;rw[nV];by_cases e:k=a
  ·subst e;rw[fc rfl,OF (by simp)];symm;rw[OC];intro x hx;have:x.1≠k:=λe=>h.1 (e▸su (f:=(·.1)) hx)
   simp[this]
  ·rw[ej e,OG (by simp[Ne.symm e]),yBr h.2]
def zGi {l:List Nat} (h:l.Nodup) (k:Nat):l.erase k=l.filter λj=> !decide (j=k):=by
 rw[h.erase_eq_filter];refine List.filter_congr λj _=> ?_
 simp[bne,BEq.beq]
def yKa {s:Int} {l:List xL} (hs:l.Pairwise λr r'=>jy s r.dj r'.dj=ax) {R1 R2:List xL} {r:xL} (hl:l=R1++r::R2):zZ s l r.dj=R1.length:=by
 subst hl;rw[af]at hs;refine pQ (by simp) (λk hk x hx=> ?_) (λx hx=> ?_)
 ·rw[EC hk]at hx;exact hs.2.2 x (lr hx) r ji
 ·rw[Cy (km _),II]at hx;cases hx;exact Mo _ _
def yHy (b:dm) (id:Int) {s:Int} (hs:s=1\/s=2):(b.ju s id).a=b.a/\(b.ju s id).ez=b.ez/\(b.ju s id).dv=b.dv/\(b.ju s id).spare=b.spare/\∀s',s'=1\/s'=2->(b.ju s id).iU s'=b.iU s'/\(b.ju s id).mh s'=if s'=s/\b.iU s=id then ay else b.mh s':=by
 rw[dm.ju];by_cases hc:b.mh s=ax/\b.iU s=id
 ·rw[fc hc];rcases hs with rfl|rfl
  ·exact(nr (λs' h=>by rcases h with rfl|rfl;exact⟨rfl,(fc ⟨rfl,hc.2⟩).symm⟩;exact⟨rfl,(ej (λe=>absurd e.1 Z8)).symm⟩))
  ·exact(nr (λs' h=>by rcases h with rfl|rfl;exact⟨rfl,(ej (λe=>absurd e.1 Z8)).symm⟩;exact⟨rfl,(fc ⟨rfl,hc.2⟩).symm⟩))
 ·rw[ej hc];refine(nr (λs' h=>⟨rfl,?_⟩));split
  ·rename_i e;rw[e.1];cases hh:b.mh s with
   |false=>rfl
   |true=>exact absurd ⟨hh,e.2⟩ hc
  ·rfl
def dm.Core.close {b:dm} {Q:List (List Nat)} {s:Int} (hs:s=1\/s=2) {r:xL} {R1 R2:List xL} (hr:b.dy s=R1++r::R2) (c:b.Core Q r.queue) (he:xD Q r=[]) {b':dm} (hb:b'=({b with spare:=b.spare++[r.queue]}:dm).qt s (R1++R2)):
 b'.Core Q (-1)/\b'.flat Q=b.flat Q:=by
 obtain⟨g1,g2⟩:=zOe ({b with spare:=b.spare++[r.queue]}:dm) hs (R1++R2);rw[<- hb]at g1 g2;have ha:b'.a=b.a:=by rw[hb];rcases hs with rfl|rfl<;>rfl
 have td:b'.at_=b.at_:=by rw[hb];rcases hs with rfl|rfl<;>rfl
 have tb:b'.spare=b.spare++[r.queue]:=by rw[hb];rcases hs with rfl|rfl<;>rfl
 have EK:b'.qs.Perm b.qs:=by
  rw[hb];rcases hs with rfl|rfl
  ·have hr:b.ez=R1++r::R2:=hr;show((R1++R2).map (·.queue)++b.dv.map (·.queue)++(b.spare++[r.queue])).Perm (b.ez.map (·.queue)++b.dv.map (·.queue)++b.spare)
   rw[hr,<- jd];refine(OK _ _).trans ?_;simp only[jk,jo,jd,tv];exact mg.symm
  ·have hr:b.dv=R1++r::R2:=hr;show(b.ez.map (·.queue)++(R1++R2).map (·.queue)++(b.spare++[r.queue])).Perm (b.ez.map (·.queue)++b.dv.map (·.queue)++b.spare)
   rw[hr,<- jd];refine(OK _ _).trans ?_;simp only[jk,jo,jd,tv];refine .trans ?_ (co _ mg.symm);exact mg.symm
 have oO:∀s',s'=1\/s'=2->b'.ie Q s'=b.ie Q s':=by
  intro s' iI;have ho:∀x,b'.gv Q s' x=b.gv Q s' x:=λx=>by rw[dm.gv,dm.gv,ha]
  rw[dm.ie,dm.ie];by_cases e:s'=s
  ·subst e;rw[g1,hr,yi,yi,vx,xE (λx _=>ho x),xE (l:=R2) (λx _=>ho x)];rw[show b.gv Q s' r=[]by rw[dm.gv,he];rfl,yh]
  ·rw[g2 s' e iI];exact xE λx _=>ho x
 have yy:∀s',s'=1\/s'=2->b'.me Q s'=b.me Q s':=by
  intro s' iI;rw[dm.me,dm.me,ha];by_cases e:s'=s
  ·subst e;rw[g1,hr,yi,yi,vx,he,Ct,yh]
  ·rw[g2 s' e iI];rfl
 have rk:b'.flat Q=b.flat Q:=by rw[dm.flat,dm.flat,oO 1 (.inl rfl),oO 2 (.inr rfl)]
 have qm:=EK.nodup_iff.2 c.nd;have aaJ:r.queue∉(R1++R2).map (·.queue):=by
  intro hm;have h1:r.queue∈(b'.dy s).map (·.queue):=by rw[g1];exact hm
  rw[dm.qs]at qm;have h2:=(zx.1 qm).2.2 r.queue (by
   rcases hs with rfl|rfl
   ·exact xx _ h1
   ·exact zg _ h1) r.queue (by rw[tb];simp)
  exact h2 rfl
 refine⟨⟨by rw[ha];exact c.wf,λs' iI=> ?_,λq hq=>c.tz q (EK.mem_iff.1 hq),qm,by rw[EK.length_eq];exact c.ql,λs' iI x hx _=> ?_,λq hq=> ?_,by rw[td,yy 1 (.inl rfl),yy 2 (.inr rfl)];exact c.at_,by rw[rk];exact c.ids,c.qb⟩,rk⟩
 ·by_cases e:s'=s
  ·subst e;have:=c.wk s' iI;rw[hr]at this;rw[g1];exact this.sublist (List.Sublist.append_left (List.sublist_cons_self _ _) _)
  ·rw[g2 s' e iI];exact c.wk s' iI
 ·by_cases e:s'=s
  ·subst e;rw[g1]at hx;refine c.ne s' iI x (by rw[hr];rcases pn.1 hx with h|h;exact xx _ h;exact zg _ (jw _ h)) λe2=>aaJ (e2▸su (f:=(·.queue)) hx)
  ·rw[g2 s' e iI]at hx;refine c.ne s' iI x hx λe2=> ?_
   have h1:r.queue∈(b'.dy s').map (·.queue):=by rw[g2 s' e iI,<- e2];exact su (f:=(·.queue)) hx
   rw[dm.qs]at qm;exact(zx.1 qm).2.2 r.queue (by
    rcases iI with rfl|rfl
    ·exact xx _ h1
    ·exact zg _ h1) r.queue (by rw[tb];simp) rfl
 ·rw[tb]at hq;rcases pn.1 hq with hq|hq
  ·exact c.sp q hq
  ·rw[vf.1 hq];exact he
def zVa {L:List zI} (h:(L.map (·.id)).Nodup) {id:Int} (hh:wU L id=ax):h9 L id (cL L id).dq=L.filter λo=> !decide (o.id=id):=by
 rw[h9,<- List.filterMap_eq_filter];refine mK λo ho=> ?_
 by_cases e:o.id=id
 ·have hg:=sI h ho;rw[e]at hg;rw[fc e,fc (by rw[hg])];simp[Option.guard,e]
 ·rw[ej e];simp[Option.guard,e]
def dm.Core.gone {b:dm} {Q:List (List Nat)} (c:b.Core Q (-1)) (ht:b.Ba (b.flat Q)) {id s:Int} {r:xL} {k:Nat} (h:Told b Q id s r k) {q:Int} (hq:1<=q/\q=(b.a.ei k).dq):
 (b.a.gf k q).2=0/\(({b with a:=(b.a.gf k q).1}:dm).iG s id r.dj).fk (h9 (b.flat Q) id q)/\(b.a.gf k q).1.du.length=250/\(b.a.gf k q).1.dx.length=b.a.dx.length/\((b.a.gf k q).1.mz k).2=ay/\zZ s (b.dy s) r.dj<(b.dy s).length:=by
 obtain⟨t1,t2,t3⟩:=c.wf.take (c.get h.hs h.hr) h.hk (q:=q) ⟨hq.1,oM⟩;rw[fc hq.2.symm]at t3;obtain⟨w,t4,t5⟩:=t3;generalize hA:(b.a.gf k q).1=a1 at*;have jv:=c.get h.hs h.hr;have EN:=(jl.1 jv).1;have Na:=c.tz _ (gB h.hs h.hr);generalize Ps:Q.set r.queue.toNat ((xD Q r).erase k)=Q' at*;have Jf:Q'.length=Q.length:=by rw[<- Ps,qp]
 have qm:(xD Q r).Nodup:=c.wf.nd _ _ jv;have EL:∀s' (r':xL),(s'=1\/s'=2)->r'∈b.dy s'->xD Q' r'=(xD Q r').erase k:=by
  intro s' r' iI ob;by_cases e:r'.queue=r.queue
  ·have e1:xD Q r'=xD Q r:=by rw[xD,xD,e]
   rw[e1,xD,e,<- Ps];exact zT (f8 EN)
  ·have h2:xD Q' r'=xD Q r':=by
    have:=c.tz _ (gB iI ob);rw[xD,xD,np,np,<- Ps,uE (by omega)]
   rw[h2];symm;refine List.erase_of_not_mem λhk=> ?_
   have:=c.wf.toyf.one (c.get iI ob) jv hk h.hk;have:=c.tz _ (gB iI ob);omega
 have hQo:∀q:Int,0<=q->q≠r.queue->Q'.getD q.toNat []=Q.getD q.toNat []:=by
  intro q h0 je;rw[<- Ps,np,uE (by omega),np]
 obtain⟨u1,u2,u3,u4,u5⟩:=yHy ({b with a:=a1}:dm) id h.hs;obtain⟨b1,pz⟩:∃b1:dm,b1={({b with a:=a1}:dm).ju s id with at_:=nV id b.at_}:=⟨_,rfl⟩
 have v1:b1.a=a1:=by rw[pz];exact u1
 have v2:b1.ez=b.ez:=by rw[pz];exact u2
 have v3:b1.dv=b.dv:=by rw[pz];exact u3
 have v4:b1.spare=b.spare:=by rw[pz];exact u4
 have v5:b1.at_=nV id b.at_:=by rw[pz]
 have v6:∀s',s'=1\/s'=2->b1.iU s'=b.iU s'/\b1.mh s'=if s'=s/\b.iU s=id then ay else b.mh s':=by
  intro s' iI;rw[pz];exact u5 s' iI
 have vr:∀s',b1.dy s'=b.dy s':=by intro s';rw[dm.dy,dm.dy,v2,v3]
 have vq:b1.qs=b.qs:=by rw[dm.qs,dm.qs,v2,v3,v4]
 have Ao:∀s',s'=1\/s'=2->b1.ie Q' s'=(b.ie Q s').filter (λo=> !decide (o.id=id))/\b1.me Q' s'=(b.me Q s').filter λx=> !decide (x.1=id):=by
  intro s' iI;rw[dm.ie,dm.ie,dm.me,dm.me,vr,List.filter_flatMap,List.filter_flatMap];have key:∀r'∈b.dy s',∀j∈xD Q r',((b.a.ei j).id=id↔j=k)/\(j≠k->vJ a1 s' r'.dj j=vJ b.a s' r'.dj j/\vW a1 s' r'.dj j=vW b.a s' r'.dj j):=by
   intro r' ob j hj;refine⟨h.only c iI ob hj,λe=> ?_⟩;have:=(t2 j e).1;refine⟨by rw[vJ,vJ,this],?_⟩;have:=congrArg DB.id this;rw[vW,vW];exact congrArg (λi=>(i,(⟨s',r'.dj,j⟩:Place))) this
  refine⟨xE λr' ob=> ?_,xE λr' ob=> ?_⟩
  ·rw[dm.gv,dm.gv,EL s' r' iI ob,zGi (c.wf.nd _ _ (c.get iI ob)),List.filter_map,v1];have e1:(xD Q r').filter ((λo:zI=> !decide (o.id=id))∘vJ b.a s' r'.dj)=(xD Q r').filter λj=> !decide (j=k):=by
    refine List.filter_congr λj hj=> ?_
    show(!decide ((b.a.ei j).id=id))=_;rw[decide_eq_decide.2 (key r' ob j hj).1]
   rw[e1];refine ui λj hj=> ?_
   rw[ve]at hj;exact((key r' ob j hj.1).2 (by simpa using hj.2)).1
  ·rw[EL s' r' iI ob,zGi (c.wf.nd _ _ (c.get iI ob)),List.filter_map,v1];have e1:(xD Q r').filter ((λx:Int×Place=> !decide (x.1=id))∘vW b.a s' r'.dj)=(xD Q r').filter λj=> !decide (j=k):=by
    refine List.filter_congr λj hj=> ?_
    show(!decide ((b.a.ei j).id=id))=_;rw[decide_eq_decide.2 (key r' ob j hj).1]
   rw[e1];refine ui λj hj=> ?_
   rw[ve]at hj;exact((key r' ob j hj.1).2 (by simpa using hj.2)).2
 have rk:b1.flat Q'=(b.flat Q).filter λo=> !decide (o.id=id):=by
  rw[dm.flat,(Ao 1 (.inl rfl)).1,(Ao 2 (.inr rfl)).1,dm.flat,IS]
 have td:b1.at_.Perm (b1.me Q' 1++b1.me Q' 2):=by
  rw[v5,yBr c.keys,(Ao 1 (.inl rfl)).2,(Ao 2 (.inr rfl)).2,<- IS];exact c.at_.filter _
 have hold:∀s' (r':xL),(s'=1\/s'=2)->r'∈b.dy s'->xD Q r'≠[]:=λs' r' iI ob=>c.ne s' iI r' ob λe=>by
  have:=c.tz _ (gB iI ob);omega
 have c1:b1.Core Q' r.queue:=by
  refine⟨by rw[v1];exact w,λs' iI=>by rw[vr];exact c.wk s' iI,by rw[vq,Jf];exact c.tz,by rw[vq];exact c.nd,by rw[vq,Jf];exact c.ql,λs' iI r' ob je=> ?_,λq hq=> ?_,td,?_,by rw[Jf];exact c.qb⟩
  ·rw[vr]at ob;have e:=hQo r'.queue (c.tz _ (gB iI ob)).1 je;rw[xD,e];exact hold s' r' iI ob
  ·rw[v4]at hq;have Nb:q∈b.qs:=zg _ hq;rw[hQo q (c.tz q Nb).1 λe=> ?_]
   ·exact c.sp q hq
   ·have GN:=c.nd;rw[dm.qs]at GN;refine(zx.1 GN).2.2 r.queue ?_ q hq e.symm;rcases h.hs with rfl|rfl
    ·exact xx _ (su (f:=(·.queue)) h.hr)
    ·exact zg _ (su (f:=(·.queue)) h.hr)
  ·rw[rk];exact c.ids.sublist (List.Sublist.map _ OB)
 have htk:h9 (b.flat Q) id q=b1.flat Q':=by
  rw[rk,<- zVa c.ids h.has,h.get,hq.2];rfl
 have hm1:∀o,o∈b1.flat Q'↔o∈b.flat Q/\o.id≠id:=by
  intro o;rw[rk,ve];simp
 have ht1:∀b2:dm,(∀x,b2.mh x=b1.mh x/\b2.iU x=b1.iU x)->b2.Ba (b1.flat Q'):=by
  intro b2 mr;refine⟨λo ho=> ?_,λs' iI hh=> ?_⟩
  ·rw[(mr _).1,(mr _).2];obtain⟨ho,je⟩:=(hm1 o).1 ho;have iI:=(pY ho).1;rw[(v6 _ iI).1,(v6 _ iI).2,ht.fl o ho];split
   ·rename_i e;rw[e.1,e.2,kr je,IJ,IJ]
   ·rfl
  ·rw[(mr _).1,(v6 s' iI).2]at hh;rw[(mr _).2,(v6 s' iI).1];split at hh
   ·cases hh
   ·rename_i e;obtain⟨o,ho,o1,o2⟩:=ht.th s' iI hh;refine⟨o,(hm1 o).2 ⟨ho,λe2=>e ?_⟩,o1,o2⟩;have hg:=sI c.ids ho;rw[e2,h.get]at hg;have D7:s'=s:=by rw[<- o1,<- hg];rfl
    exact⟨D7,by rw[<- D7,<- o2,e2]⟩
 obtain⟨R1,R2,oQ⟩:=List.append_of_mem h.hr;have Hx:=yKa (c.wk s h.hs) oQ;have pg:(b.dy s).getD (zZ s (b.dy s) r.dj) ⟨0,0⟩=r:=by
  rw[Hx,oQ];refine zT ?_;rw[Cy (km _),II];rfl
 have Ad:zZ s (b.dy s) r.dj<(b.dy s).length:=by rw[Hx,oQ];simp
 have hQr:Q'[r.queue.toNat]? =az ((xD Q r).erase k):=by rw[<- Ps];exact f8 EN
 have LH:(a1.pw r.queue).count=((xD Q r).erase k).length:=by
  have:=w.q _ _ hQr;have Ht:=w.ql;rw[Ry Na.1 this]
 have er:xD Q' r=(xD Q r).erase k:=zT hQr;have hru:({b with a:=a1}:dm).dy s=b.dy s:=rfl;have OX:(a1.mz k).2=ay:=by
  have:a1.iw k=ay:=by
   have e:a1.ei k=iB:=t4;rw[dt.ei]at e;rw[dt.iw,ow,e];simp[iB]
  rw[dt.mz,ej (by rw[this];decide)]
 refine⟨t1,?_,w.len,by rw[w.ql,c.wf.ql,Jf],OX,Ad⟩;rw[dm.iG,hru,pg];by_cases hz:(a1.pw r.queue).count=0
 ·rw[fc hz];have he:xD Q' r=[]:=by
   rw[er];refine xu ?_;omega
  obtain⟨k1,k2⟩:=dm.Core.close h.hs (by rw[vr];exact oQ) c1 he rfl;have ebk:(({({b with a:=a1}:dm).ju s id with at_:=nV id b.at_,spare:=b.spare++[r.queue]}:dm).qt s ((b.dy s).take (zZ s (b.dy s) r.dj)++(b.dy s).drop (zZ s (b.dy s) r.dj+1)))=(({b1 with spare:=b1.spare++[r.queue]}:dm).qt s (R1++R2)):=by
   have e1:(b.dy s).take (zZ s (b.dy s) r.dj)++(b.dy s).drop (zZ s (b.dy s) r.dj+1)=R1++R2:=by
    rw[Hx,oQ,MH];congr 1;rw[KB,Hh (by omega),Nat.add_sub_cancel_left];rfl
   rw[e1,v4,pz]
  refine⟨Q',?_,?_,?_⟩
  ·exact ebk▸k1
  ·rw[htk];refine ht1 _ λx=> ?_
   show(dm.mh (({({b with a:=a1}:dm).ju s id with at_:=nV id b.at_,spare:=b.spare++[r.queue]}:dm).qt s ((b.dy s).take (zZ s (b.dy s) r.dj)++(b.dy s).drop (zZ s (b.dy s) r.dj+1))) x=_/\dm.iU (({({b with a:=a1}:dm).ju s id with at_:=nV id b.at_,spare:=b.spare++[r.queue]}:dm).qt s ((b.dy s).take (zZ s (b.dy s) r.dj)++(b.dy s).drop (zZ s (b.dy s) r.dj+1))) x=_);rw[ebk];rcases h.hs with rfl|rfl<;>exact⟨rfl,rfl⟩
  ·rw[htk];show _=dm.flat (({({b with a:=a1}:dm).ju s id with at_:=nV id b.at_,spare:=b.spare++[r.queue]}:dm).qt s ((b.dy s).take (zZ s (b.dy s) r.dj)++(b.dy s).drop (zZ s (b.dy s) r.dj+1))) Q';rw[ebk];exact k2.symm
 ·rw[ej hz];have c2:b1.Core Q' (-1):=⟨c1.wf,c1.wk,c1.tz,c1.nd,c1.ql,λs' iI r' ob _=>by
   by_cases e:r'.queue=r.queue
   ·rw[xD,e];intro e2;rw[xD]at er;rw[er]at e2;rw[LH,e2]at hz;exact hz rfl
   ·exact c1.ne s' iI r' ob e,c1.sp,c1.at_,c1.ids,c1.qb⟩
  have hh:({({b with a:=a1}:dm).ju s id with at_:=nV id b.at_}:dm)=b1:=pz.symm;show dm.fk {({b with a:=a1}:dm).ju s id with at_:=nV id b.at_} _;rw[hh,htk];exact⟨Q',c2,ht1 b1 λ_=>⟨rfl,rfl⟩,rfl⟩
def tL (k:Int):∀l,Bx (cg bo k) (iF l)=iF (nV k l)
 |[]=>rfl
 |(a,b)::l=>by
  have ih:=tL k l;show(bif (vy .i64 .i64 && decide (k=a))then iF l else _::Bx _ (iF l))=_;rw[ih,nV];by_cases h:k=a
  ·subst h;simp[vy]
  ·simp[h,iF]
def yAz:Rq.ok Tryz.prog 246:=
 Ih mixed Tryz.func246 rfl (by kernel_rfl) (by kernel_rfl) (by kernel_rfl) (by kernel_rfl) Xl rfl Z8 (λs sn sk i j w R=>by kernel_rfl)
def dup {X:Prop} {n:Int} (h:X):X/\n=n/\True/\X:=⟨h,rfl,trivial,h⟩
def dm.Core.small {b:dm} {Q:List (List Nat)} (c:b.Core Q (-1)):b.small:=by
 have hq:=c.qb;have h1:=c.ql;have h2:=c.wf.ql;have h3:=c.wf.len;rw[dm.qs,im,im,ia,ia]at h1;exact⟨⟨oM,oM⟩,oM,oM,oM⟩
def y0e (i:CR) (h:FP.dp i):yLe i:=by
 obtain⟨ua,hn⟩:i.ok 1:=h;obtain⟨⟨ha1,ha2⟩,pz,mr,tb⟩:=id ua;have hn:zZ 1 i.b.ez i.dj<i.b.ez.length:=hn;obtain⟨r,hr⟩:=z7 (l:=i.b.ez) hn;have pg:((i.b.dy 1).getD (zZ 1 (i.b.dy 1) i.dj) ⟨0,0⟩)=r:=zT hr;have hw:∀k:Int,bo.wrap ((zZ 1 (i.b.dy 1) i.dj:Int)+1)=((zZ 1 (i.b.dy 1) i.dj+1:Nat):Int):=λ_=>by
  have:=Sw 1 i.dj (i.b.dy 1);have hl:(i.b.dy 1).length<=1000000:=by show i.b.ez.length<=_;omega
  rw[ir (by omega)];rfl
 have Dv:((zZ 1 (i.b.dy 1) i.dj:Nat):Int)<((aa zB i.b.ez).length:Int):=by
  rw[ia];show((zZ 1 i.b.ez i.dj:Nat):Int)<_;omega
 unfold yLe Xh Xz fN uI qF xW xC dI;refine⟨wC _ _,Cv.dp.mk (λc1=>Cv.dp.mk (λc2=> ?_) (λc2=> ?_)) (λc1=> ?_)⟩
 ·have c2:i.b.gg=i.id:=by simpa using c2
  have hu:i.b.ju 1 i.id={i.b with fm:=ay}:=by rw[dm.ju,fc ⟨c1,c2⟩];rfl
  refine⟨⟨{i.b with fm:=ay,at_:=nV i.id i.b.at_},i.dj⟩,gm ⟨rfl,(tL _ _).symm,rfl,ua,λ_ _=>⟨⟨oM,Dv⟩,r.queue,jq hr (by simp[zB]) rfl,⟨i.b.a,r.queue⟩,rfl,rfl,trivial,λ_ _=>Cv.dp.mk (λe=>⟨by simp only[y4];omega,⟨i.b.ez.map zB,zZ 1 (i.b.dy 1) i.dj,zZ 1 (i.b.dy 1) i.dj+1⟩,rfl,(hw 0).symm,rfl,⟨Kz _,by rw[ia];exact hn⟩,λ_ _=>⟨rfl,(),?_⟩⟩) (λe=>⟨(),?_⟩)⟩⟩⟩
  ·have e:(i.b.a.pw r.queue).count=0:=by simpa using e
   rw[dm.iG,pg,fc e,hu];refine(Aa ⟨rfl,?_,rfl,?_,trivial⟩)
   ·show aa zB (i.b.ez.take _++i.b.ez.drop _)=_;rw[jk,Ez,Hb]
   ·show iE (i.b.spare++[r.queue])=_;simp[iE]
  ·have e:¬(i.b.a.pw r.queue).count=0:=by simpa using e
   rw[dm.iG,pg,ej e,hu];exact(ma (iM trivial))
 ·have c2:¬i.b.gg=i.id:=by simpa using c2
  have hu:i.b.ju 1 i.id={i.b with fm:=i.b.fm}:=by rw[dm.ju,ej (λe=>c2 e.2)]
  refine⟨⟨{i.b with fm:=i.b.fm,at_:=nV i.id i.b.at_},i.dj⟩,gm ⟨rfl,(tL _ _).symm,rfl,ua,λ_ _=>⟨⟨oM,Dv⟩,r.queue,jq hr (by simp[zB]) rfl,⟨i.b.a,r.queue⟩,rfl,rfl,trivial,λ_ _=>Cv.dp.mk (λe=>⟨by simp only[y4];omega,⟨i.b.ez.map zB,zZ 1 (i.b.dy 1) i.dj,zZ 1 (i.b.dy 1) i.dj+1⟩,rfl,(hw 0).symm,rfl,⟨Kz _,by rw[ia];exact hn⟩,λ_ _=>⟨rfl,(),?_⟩⟩) (λe=>⟨(),?_⟩)⟩⟩⟩
  ·have e:(i.b.a.pw r.queue).count=0:=by simpa using e
   rw[dm.iG,pg,fc e,hu];refine(Aa ⟨rfl,?_,rfl,?_,trivial⟩)
   ·show aa zB (i.b.ez.take _++i.b.ez.drop _)=_;rw[jk,Ez,Hb]
   ·show iE (i.b.spare++[r.queue])=_;simp[iE]
  ·have e:¬(i.b.a.pw r.queue).count=0:=by simpa using e
   rw[dm.iG,pg,ej e,hu];exact(ma (iM trivial))
 ·have hu:i.b.ju 1 i.id={i.b with fm:=i.b.fm}:=by
   rw[dm.ju,ej];rintro⟨e,_⟩;exact absurd (show i.b.fm=ax from e) (by rw[c1];decide)
  refine⟨⟨{i.b with fm:=i.b.fm,at_:=nV i.id i.b.at_},i.dj⟩,gm ⟨rfl,(tL _ _).symm,rfl,ua,λ_ _=>⟨⟨oM,Dv⟩,r.queue,jq hr (by simp[zB]) rfl,⟨i.b.a,r.queue⟩,rfl,rfl,trivial,λ_ _=>Cv.dp.mk (λe=>⟨by simp only[y4];omega,⟨i.b.ez.map zB,zZ 1 (i.b.dy 1) i.dj,zZ 1 (i.b.dy 1) i.dj+1⟩,rfl,(hw 0).symm,rfl,⟨Kz _,by rw[ia];exact hn⟩,λ_ _=>⟨rfl,(),?_⟩⟩) (λe=>⟨(),?_⟩)⟩⟩⟩
  ·have e:(i.b.a.pw r.queue).count=0:=by simpa using e
   rw[dm.iG,pg,fc e,hu];refine(Aa ⟨rfl,?_,rfl,?_,trivial⟩)
   ·show aa zB (i.b.ez.take _++i.b.ez.drop _)=_;rw[jk,Ez,Hb]
   ·show iE (i.b.spare++[r.queue])=_;simp[iE]
  ·have e:¬(i.b.a.pw r.queue).count=0:=by simpa using e
   rw[dm.iG,pg,ej e,hu];exact(ma (iM trivial))
def yMd:FP.ok Tryz.prog 235:=gw mixed (dw V8 (dw pF (dw yAz fg))) 0 (λ_=>[]) (λ_=>[]) [] Tryz.func235 y0e
def yYv (i:CR) (h:FO.dp i):yGu i:=by
 obtain⟨ua,hn⟩:i.ok 2:=h;obtain⟨⟨ha1,ha2⟩,pz,mr,tb⟩:=id ua;have hn:zZ 2 i.b.dv i.dj<i.b.dv.length:=hn;obtain⟨r,hr⟩:=z7 (l:=i.b.dv) hn;have pg:((i.b.dy 2).getD (zZ 2 (i.b.dy 2) i.dj) ⟨0,0⟩)=r:=zT hr;have hw:∀k:Int,bo.wrap ((zZ 2 (i.b.dy 2) i.dj:Int)+1)=((zZ 2 (i.b.dy 2) i.dj+1:Nat):Int):=λ_=>by
  have:=Sw 2 i.dj (i.b.dy 2);have hl:(i.b.dy 2).length<=1000000:=by show i.b.dv.length<=_;omega
  rw[ir (by omega)];rfl
 have Dv:((zZ 2 (i.b.dy 2) i.dj:Nat):Int)<((aa zB i.b.dv).length:Int):=by
  rw[ia];show((zZ 2 i.b.dv i.dj:Nat):Int)<_;omega
 unfold yGu WZ WO g9 uL qF xU xB dI;refine⟨wC _ _,Cv.dp.mk (λc1=>Cv.dp.mk (λc2=> ?_) (λc2=> ?_)) (λc1=> ?_)⟩
 ·have c2:i.b.gh=i.id:=by simpa using c2
  have hu:i.b.ju 2 i.id={i.b with fp:=ay}:=by rw[dm.ju,fc ⟨c1,c2⟩];rfl
  refine⟨⟨{i.b with fp:=ay,at_:=nV i.id i.b.at_},i.dj⟩,gm ⟨rfl,(tL _ _).symm,rfl,ua,λ_ _=>⟨⟨oM,Dv⟩,r.queue,jq hr (by simp[zB]) rfl,⟨i.b.a,r.queue⟩,rfl,rfl,trivial,λ_ _=>Cv.dp.mk (λe=>⟨by simp only[y4];omega,⟨i.b.dv.map zB,zZ 2 (i.b.dy 2) i.dj,zZ 2 (i.b.dy 2) i.dj+1⟩,rfl,(hw 0).symm,rfl,⟨Kz _,by rw[ia];exact hn⟩,λ_ _=>⟨rfl,(),?_⟩⟩) (λe=>⟨(),?_⟩)⟩⟩⟩
  ·have e:(i.b.a.pw r.queue).count=0:=by simpa using e
   rw[dm.iG,pg,fc e,hu];refine(ma ⟨rfl,?_,?_,trivial⟩)
   ·show aa zB (i.b.dv.take _++i.b.dv.drop _)=_;rw[jk,Ez,Hb]
   ·show iE (i.b.spare++[r.queue])=_;simp[iE]
  ·have e:¬(i.b.a.pw r.queue).count=0:=by simpa using e
   rw[dm.iG,pg,ej e,hu];exact(ma (iM trivial))
 ·have c2:¬i.b.gh=i.id:=by simpa using c2
  have hu:i.b.ju 2 i.id={i.b with fp:=i.b.fp}:=by rw[dm.ju,ej (λe=>c2 e.2)]
  refine⟨⟨{i.b with fp:=i.b.fp,at_:=nV i.id i.b.at_},i.dj⟩,gm ⟨rfl,(tL _ _).symm,rfl,ua,λ_ _=>⟨⟨oM,Dv⟩,r.queue,jq hr (by simp[zB]) rfl,⟨i.b.a,r.queue⟩,rfl,rfl,trivial,λ_ _=>Cv.dp.mk (λe=>⟨by simp only[y4];omega,⟨i.b.dv.map zB,zZ 2 (i.b.dy 2) i.dj,zZ 2 (i.b.dy 2) i.dj+1⟩,rfl,(hw 0).symm,rfl,⟨Kz _,by rw[ia];exact hn⟩,λ_ _=>⟨rfl,(),?_⟩⟩) (λe=>⟨(),?_⟩)⟩⟩⟩
  ·have e:(i.b.a.pw r.queue).count=0:=by simpa using e
   rw[dm.iG,pg,fc e,hu];refine(ma ⟨rfl,?_,?_,trivial⟩)
   ·show aa zB (i.b.dv.take _++i.b.dv.drop _)=_;rw[jk,Ez,Hb]
   ·show iE (i.b.spare++[r.queue])=_;simp[iE]
  ·have e:¬(i.b.a.pw r.queue).count=0:=by simpa using e
   rw[dm.iG,pg,ej e,hu];exact(ma (iM trivial))
 ·have hu:i.b.ju 2 i.id={i.b with fp:=i.b.fp}:=by
   rw[dm.ju,ej];rintro⟨e,_⟩;exact absurd (show i.b.fp=ax from e) (by rw[c1];decide)
  refine⟨⟨{i.b with fp:=i.b.fp,at_:=nV i.id i.b.at_},i.dj⟩,gm ⟨rfl,(tL _ _).symm,rfl,ua,λ_ _=>⟨⟨oM,Dv⟩,r.queue,jq hr (by simp[zB]) rfl,⟨i.b.a,r.queue⟩,rfl,rfl,trivial,λ_ _=>Cv.dp.mk (λe=>⟨by simp only[y4];omega,⟨i.b.dv.map zB,zZ 2 (i.b.dy 2) i.dj,zZ 2 (i.b.dy 2) i.dj+1⟩,rfl,(hw 0).symm,rfl,⟨Kz _,by rw[ia];exact hn⟩,λ_ _=>⟨rfl,(),?_⟩⟩) (λe=>⟨(),?_⟩)⟩⟩⟩
  ·have e:(i.b.a.pw r.queue).count=0:=by simpa using e
   rw[dm.iG,pg,fc e,hu];refine(ma ⟨rfl,?_,?_,trivial⟩)
   ·show aa zB (i.b.dv.take _++i.b.dv.drop _)=_;rw[jk,Ez,Hb]
   ·show iE (i.b.spare++[r.queue])=_;simp[iE]
  ·have e:¬(i.b.a.pw r.queue).count=0:=by simpa using e
   rw[dm.iG,pg,ej e,hu];exact(ma (iM trivial))
def yGx:FO.ok Tryz.prog 235:=gw mixed (dw VK (dw pF (dw yAz fg))) 0 (λ_=>[]) (λ_=>[]) [] Tryz.func235 yYv
def ySk:Ro.ok Tryz.prog 235:=λj=>match j with
 |⟨i,ay⟩=>yMd i
 |⟨i,ax⟩=>yGx i
def yRc {a:dt} {k:Nat} {p t:Int} {m:Nat} (h:RH (a.ei k) m k p t) (hl:k<a.du.length):a.mz k=((a.ei k).oX,ax):=by
 have:a.iw k=ax:=by
  simp only[dt.iw,kx,tw,ow];exact⟨oM,oM,h.used⟩
 rw[dt.mz,fc this,ow]
def zZq {b:dm} {Q:List (List Nat)} (c:b.Core Q (-1)) {id s:Int} {r:xL} {k:Nat} (h:Told b Q id s r k):b.a.mz k=((b.a.ei k).oX,ax)/\(b.a.ei k).dq<=1000000/\1<=(b.a.ei k).dq:=by
 obtain⟨h1,⟨p,t,h2⟩,h3⟩:=c.wf.toyf.mem (c.get h.hs h.hr) h.hk;exact⟨yRc h2 (by rw[c.wf.len];exact h1),h2.q2,c.wf.pos _ _ (c.get h.hs h.hr) _ h.hk⟩
def yYy (i:B6) (h:FV.dp i):yMa i:=by
 obtain⟨Q,c,ht,hL⟩:i.b.fk i.L:=h;unfold yMa WM Yo rX dI;rcases c.told i.id with⟨hg,hn⟩|⟨s,r,k,hT⟩
 ·refine⟨wC _ _,ay,0,0,0,.inr ⟨?_,rfl,rfl⟩,Cv.dp.mk (λ_=> ?_) (λe=>absurd e Z8)⟩
  ·rw[Mf,hg];rfl
  ·rw[<- hL]at hn;rw[yYc hn,hn];exact⟨(),gn⟩
 ·refine⟨wC _ _,ax,s,r.dj,k,.inl ⟨?_,rfl⟩,Cv.dp.mk (λe=>absurd e Z8) (λ_=>dup ⟨⟨i.b.a,k⟩,rfl,rfl,by dsimp only;rw[c.wf.len];decide,λ_ _=>⟨(),?_⟩⟩)⟩
  ·rw[Mf,hT.e];rfl
  ·have h1:=hT.get;have h2:=hT.has;rw[<- hL]at h1 h2;rw[h1,h2,(zZq c hT).1];exact⟨hT.ident,gn⟩
def z3l:FV.ok Tryz.prog 198:=gw mixed (dw yBx fg) 0 (λ_=>[]) (λ_=>[]) [0] Tryz.func198 yYy
def dm.Core.DD {b:dm} {Q:List (List Nat)} (c:b.Core Q (-1)):b.a.DD:=c.wf.toyf.ok
def y4d (i:B6) (h:JS.dp i):yVk i:=by
 have hR:i.b.fk i.L:=h;obtain⟨Q,c,ht,hL⟩:=id hR;unfold yVk V4 VG vO Tp rX dI;rcases c.told i.id with⟨hg,hn⟩|⟨s,r,k,hT⟩
 ·refine⟨wC _ _,ay,0,0,0,.inr ⟨?_,rfl,rfl⟩,Cv.dp.mk (λ_=> ?_) (λe=>absurd e (by simp))⟩
  ·rw[Mf,hg];rfl
  ·rw[<- hL]at hn;rw[qB,fc hn];exact⟨i.b,oA (iM hR)⟩
 have hg:=hT.get;have hh:=hT.has;rw[<- hL]at hg hh;obtain⟨I5,qe,qk⟩:=zZq c hT;have Nb:(cL i.L i.id).dq=(i.b.a.ei k).dq:=by rw[hg];rfl
 refine⟨wC _ _,ax,s,r.dj,k,.inl ⟨?_,rfl⟩,Cv.dp.mk (λe=>absurd e (by simp)) (λ_=>⟨⟨i.b.a,k,i.dq⟩,rfl,rfl,rfl,c.DD,λ_ _=> ?_⟩)⟩
 ·rw[Mf,hT.e];rfl
 dsimp only;have hu:i.b.a.iw k=ax:=by
  cases hu:i.b.a.iw k with
  |true=>rfl
  |false=>rw[dt.mz,ej (by rw[hu];decide)]at I5;exact absurd (congrArg Prod.snd I5) (by simp)
 by_cases hb:i.dq<1\/(i.b.a.ei k).dq<i.dq
 ·have ht:i.b.a.gf k i.dq=(i.b.a,24):=by rw[dt.gf,ej (by rw[hu];decide),ow,fc hb]
  rw[ht];refine Cv.dp.mk (λ_=> ?_) (λe=>absurd e (by simp));rw[qB,ej (by rw[hh];decide),fc (by rw[Nb];exact hb)];exact⟨i.b,oA (iM hR)⟩
 have Ad:qB i.L i.id i.dq=(h9 i.L i.id i.dq,0):=by rw[qB,ej (by rw[hh];decide),ej (by rw[Nb];exact hb)]
 by_cases hf:i.dq=(i.b.a.ei k).dq
 ·obtain⟨g1,g2,g3,g4,g5,g6⟩:=c.gone (by rw[<- hL];exact ht) hT (q:=i.dq) ⟨oM,hf⟩;rw[<- hL]at g2;have ua:=c.small;rw[g1];refine Cv.dp.mk (λe=>absurd e (by simp)) (λ_=>dup ⟨⟨(i.b.a.gf k i.dq).1,k⟩,rfl,rfl,by dsimp only;rw[g3];decide,λ_ _=> ?_⟩);dsimp only;rw[g5];refine Cv.dp.mk (λ_=> ?_) (λe=>absurd e (by simp));rcases hT.hs with rfl|rfl
  ·refine⟨⟨⟨{i.b with a:=(i.b.a.gf k i.dq).1},i.id,r.dj,k⟩,ay⟩,gm (nr ⟨rfl,⟨⟨⟨by dsimp only;rw[g3];decide,by dsimp only;rw[g4];exact ua.1.2⟩,ua.2⟩,g6⟩,λ_ _=> ?_⟩)⟩;refine⟨({i.b with a:=(i.b.a.gf k i.dq).1}:dm).iG 1 i.id r.dj,by rw[Ad],ma (iM (by rw[Ad];exact g2))⟩
  ·refine⟨⟨⟨{i.b with a:=(i.b.a.gf k i.dq).1},i.id,r.dj,k⟩,ax⟩,gm (nr ⟨rfl,⟨⟨⟨by dsimp only;rw[g3];decide,by dsimp only;rw[g4];exact ua.1.2⟩,ua.2⟩,g6⟩,λ_ _=> ?_⟩)⟩;refine⟨({i.b with a:=(i.b.a.gf k i.dq).1}:dm).iG 2 i.id r.dj,by rw[Ad],ma (iM (by rw[Ad];exact g2))⟩
 ·obtain⟨g1,g2,g3,g4,g5⟩:=c.less (by rw[<- hL];exact ht) hT (q:=i.dq) oM;rw[<- hL]at g2;rw[g1];refine Cv.dp.mk (λe=>absurd e (by simp)) (λ_=>dup ⟨⟨(i.b.a.gf k i.dq).1,k⟩,rfl,rfl,by dsimp only;rw[g3];decide,λ_ _=> ?_⟩);dsimp only;rw[g4];refine Cv.dp.mk (λe=>absurd e (by simp)) (λ_=>Cv.dp.mk (λe=> ?_) (λ_=> ?_))
  ·have e:¬((i.b.a.gf k i.dq).1.ei k).oX.id=i.id:=by simpa using e
   exact absurd g5 e
  ·exact⟨{i.b with a:=(i.b.a.gf k i.dq).1},by rw[Ad],ma (iM (by rw[Ad];exact g2))⟩
def yRp:JS.ok Tryz.prog 222:=gw mixed (dw yJd (dw yBx (dw ySk fg))) 0 (λ_=>[]) (λ_=>[]) [0] Tryz.func222 y4d
def UX (A B:List zI) (s p:Int):uu (A++B) s p=uu A s p++uu B s p:=IS _ _
def RL {A:List zI} {s p:Int} (h:∀o∈A,o.side=s->o.dj≠p):uu A s p=[]:=by
 rw[uu,ak];intro o ho;by_cases e:o.side=s
 ·simp[h o ho e]
 ·simp[e]
def ySc {A:List zI} {s p:Int} (h:∀o∈A,o.side=s/\o.dj=p):uu A s p=A:=by
 rw[uu,OC];intro o ho;simp[h o ho]
def ND {s x y:Int} (h:jy s x y=ax):x≠y:=by
 rintro rfl;rw[Mo]at h;cases h
def dm.Core.J0 {b:dm} {Q:List (List Nat)} (c:b.Core Q (-1)) {s p:Int} (hs:s=1\/s=2) (h:kP s (b.dy s) p=ay):uu (b.flat Q) s p=[]:=by
 have tb:=Yx (p:=p) (c.wk s hs);rw[ej (by rw[h];decide)]at tb;refine RL λo ho e=> ?_
 obtain⟨_,r,hr,_,hp⟩:=pY ho;rw[e]at hr;rw[hp];rw[<- Bz (zZ s (b.dy s) p) (b.dy s)]at hr;rcases pn.1 hr with hr|hr
 ·exact ND (tb.1 r hr)
 ·exact(ND (tb.2 r hr)).symm
def dm.Core.F0 {b:dm} {Q:List (List Nat)} (c:b.Core Q (-1)) {s p:Int} (hs:s=1\/s=2) (h:kP s (b.dy s) p=ax):∃r,(b.dy s)[zZ s (b.dy s) p]? =az r/\r.dj=p/\r∈b.dy s/\uu (b.flat Q) s p=b.gv Q s r:=by
 have tb:=Yx (p:=p) (c.wk s hs);rw[fc h]at tb;obtain⟨h1,r,hr,hp,h2⟩:=tb;have gr:=(jl.1 hr).1;refine⟨r,hr,hp,lr hr,?_⟩;have oQ:b.dy s=(b.dy s).take (zZ s (b.dy s) p)++r::(b.dy s).drop (zZ s (b.dy s) p+1):=by
  conv=>lhs;rw[<- Bz (zZ s (b.dy s) p) (b.dy s)]
  rw[Dq gr,(jl.1 hr).2]
 have oO:uu (b.ie Q s) s p=b.gv Q s r:=by
  rw[dm.ie,oQ,yi,vx,UX,UX,RL,ySc,RL,oL,yh]
  ·intro o ho _;obtain⟨r',ob,ho⟩:=AB.1 ho;rw[(qI ho).2];exact(ND (h2 r' ob)).symm
  ·intro o ho;rw[<- hp];exact qI ho
  ·intro o ho _;obtain⟨r',ob,ho⟩:=AB.1 ho;rw[(qI ho).2];exact ND (h1 r' ob)
 have FH:∀s',s'≠s->uu (b.ie Q s') s p=[]:=λs' je=>RL λo ho e=>absurd ((mX ho).1.symm.trans e) je
 rw[dm.flat,UX];rcases hs with rfl|rfl
 ·rw[oO,FH 2 (by decide),oL]
 ·rw[oO,FH 1 (by decide),yh]
def dm.Core.pd {b:dm} {Q:List (List Nat)} (c:b.Core Q (-1)) {s:Int} (hs:s=1\/s=2) {r:xL} (hr:r∈b.dy s):b.a.pd r.queue (xD Q r):=by
 have hg:=c.get hs hr;have Na:=c.tz _ (gB hs hr);refine⟨by have:=c.wf.toyf.short hg;omega,?_⟩;rw[fc ⟨Na.1,by rw[c.wf.ql];exact Na.2⟩,zT (c.wf.q _ _ hg)];exact zVo (c.wf.sg _ _ hg)
def y7y (i:HJ) (h:Qv.dp i):y4r i:=by
 obtain⟨Q,c,ht,hL⟩:i.b.fk i.L:=h;unfold y4r fN uI qF xW qY dI;refine⟨1,rfl,trivial,λ_ _=>Cv.dp.mk (λe=>absurd e Z8) λ_=>⟨⟨i.b,i.dj⟩,oA (iM ⟨rfl,c.small,λ_ _=>Cv.dp.mk (λe=> ?_) (λe=> ?_)⟩)⟩⟩
 ·have e:kP 1 (i.b.dy 1) i.dj=ay:=by simpa using e
  have:=c.J0 (.inl rfl) e;rw[<- hL]at this;refine⟨(),gm ⟨rfl,?_,trivial⟩⟩;show aa vG (uu i.L 1 i.dj)=[];rw[this];rfl
 ·have e:kP 1 (i.b.dy 1) i.dj=ax:=by simpa using e
  obtain⟨r,hr,hp,hm,ha⟩:=c.F0 (.inl rfl) e;rw[<- hL]at ha;have gr:=(jl.1 hr).1;refine⟨⟨oM,by rw[ia];exact Int.ofNat_lt.2 gr⟩,r.dj,r.queue,jq hr (by simp[zB]) rfl,⟨i.b,1,r,xD Q r⟩,gm (iM ⟨rfl,c.pd (.inl rfl) hm,λ_ _=>⟨(),rfl,?_,trivial⟩⟩)⟩;show aa vG (uu i.L 1 i.dj)=_;rw[ha,Ei.om,dm.gv,dt.fq];simp only[vu];rfl
def yXk:Qv.ok Tryz.prog 237:=gw mixed (dw lI (dw V8 (dw zUm fg))) 0 (λ_=>[]) (λ_=>[]) [0] Tryz.func237 y7y
def y6r (i:HJ) (h:Qu.dp i):y3o i:=by
 obtain⟨Q,c,ht,hL⟩:i.b.fk i.L:=h;unfold y3o g9 uL qF xU qY dI;refine⟨2,rfl,trivial,λ_ _=>Cv.dp.mk (λe=>absurd e Z8) λ_=>⟨⟨i.b,i.dj⟩,oA (iM ⟨rfl,c.small,λ_ _=>Cv.dp.mk (λe=> ?_) (λe=> ?_)⟩)⟩⟩
 ·have e:kP 2 (i.b.dy 2) i.dj=ay:=by simpa using e
  have:=c.J0 (.inr rfl) e;rw[<- hL]at this;refine⟨(),gm ⟨rfl,?_,trivial⟩⟩;show aa vG (uu i.L 2 i.dj)=[];rw[this];rfl
 ·have e:kP 2 (i.b.dy 2) i.dj=ax:=by simpa using e
  obtain⟨r,hr,hp,hm,ha⟩:=c.F0 (.inr rfl) e;rw[<- hL]at ha;have gr:=(jl.1 hr).1;refine⟨⟨oM,by rw[ia];exact Int.ofNat_lt.2 gr⟩,r.dj,r.queue,jq hr (by simp[zB]) rfl,⟨i.b,2,r,xD Q r⟩,gm (iM ⟨rfl,c.pd (.inr rfl) hm,λ_ _=>⟨(),rfl,?_,trivial⟩⟩)⟩;show aa vG (uu i.L 2 i.dj)=_;rw[ha,Ei.om,dm.gv,dt.fq];simp only[vu];rfl
def yXl:Qu.ok Tryz.prog 237:=gw mixed (dw lI (dw VK (dw zUm fg))) 0 (λ_=>[]) (λ_=>[]) [0] Tryz.func237 y6r
def y3e:atC.ok Tryz.prog 237:=λj=>match j with
 |⟨b,L,ay,p⟩=>yXk ⟨b,L,ay,p⟩
 |⟨b,L,ax,p⟩=>yXl ⟨b,L,ax,p⟩
def IC (p:Int) (l:List zI):Lv:=⟨p,(l.map (·.dq)).sum,l.length⟩
def V9:∀{l:List zI} {v:Lv} {vs:List Lv},wy l=v::vs->∃o r,l=o::r/\o.dj=v.dj
 |[],v,vs,h=>by cases h
 |o::r,v,vs,h=>by
  refine⟨o,r,rfl,?_⟩;rw[wy]at h;split at h
  ·cases h;rfl
  ·split at h
   ·rename_i e;cases h;exact e.symm
   ·cases h;rfl
def yBy {p:Int}:∀{l:List zI} {m:List zI},l≠[]->(∀o∈l,o.dj=p)->(∀o r,m=o::r->o.dj≠p)->wy (l++m)=IC p l::wy m
 |[],m,h,_,_=>absurd rfl h
 |[o],m,_,h,hm=>by
  have e:=h o ji;rw[List.singleton_append,wy];split
  ·rename_i g;simp[IC,e,g]
  ·rename_i v vs g;obtain⟨o',r,e1,e2⟩:=V9 g;have:=hm o' r e1;rw[ej (by omega)];simp[IC,e,g]
 |o::o'::l,m,_,h,hm=>by
  have e:=h o ji;have ih:=yBy (l:=o'::l) (m:=m) (by simp) (λx hx=>h x (jw _ hx)) hm;rw[tv,wy,ih];dsimp only;rw[fc (show(IC p (o'::l)).dj=o.dj from e.symm)];simp only[IC,jo,qv,iD];rfl
def z2z {f:xL->List zI}:∀{R:List xL},(∀r∈R,f r≠[]/\∀o∈f r,o.dj=r.dj)->R.Pairwise (λr r'=>r.dj≠r'.dj)->wy (R.flatMap f)=R.map λr=>IC r.dj (f r)
 |[],_,_=>rfl
 |r::R,h,hp=>by
  rw[Hf]at hp;have ih:=z2z (R:=R) (λx hx=>h x (jw _ hx)) hp.2;rw[vx,yBy (h r ji).1 (h r ji).2,ih,jo];intro o l e;cases R with
  |nil=>cases e
  |cons r' R'=>
   rw[vx]at e;obtain⟨h1,h2⟩:=h r' (jw _ ji);cases hf:f r' with
   |nil=>exact absurd hf h1
   |cons x y=>
    rw[hf,tv]at e;cases e;rw[h2 o (by rw[hf];exact ji)];exact(hp.1 r' ji).symm
def zTh {b:dm} {Q:List (List Nat)} {s:Int} (hs:s=1\/s=2):(b.flat Q).filter (λo=>decide (o.side=s))=b.ie Q s:=by
 have h1:∀s',(b.ie Q s').filter (λo=>decide (o.side=s))=if s'=s then b.ie Q s' else[]:=by
  intro s';split
  ·rename_i e;rw[OC];intro o ho;rw[(mX ho).1,e];simp
  ·rename_i e;rw[ak];intro o ho;rw[(mX ho).1];simp[e]
 rw[dm.flat,IS,h1,h1];rcases hs with rfl|rfl
 ·simp
 ·simp
def dm.Core.neL {b:dm} {Q:List (List Nat)} (c:b.Core Q (-1)) {s:Int} (hs:s=1\/s=2) {r:xL} (hr:r∈b.dy s):xD Q r≠[]:=c.ne s hs r hr λe=>by have:=c.tz _ (gB hs hr);omega
def dm.Core.QG {b:dm} {Q:List (List Nat)} (c:b.Core Q (-1)) {s:Int} (hs:s=1\/s=2) {r:xL} (hr:r∈b.dy s):b.told r=IC r.dj (b.gv Q s r):=by
 have hg:=c.get hs hr;have Na:=c.tz _ (gB hs hr);have hq:=c.wf.q _ _ hg;have Ht:=c.wf.ql;rw[dm.told,Ry Na.1 hq,IC,dm.gv,vu,ia];rfl
def dm.Core.lad {b:dm} {Q:List (List Nat)} (c:b.Core Q (-1)) {s:Int} (hs:s=1\/s=2):gL (b.flat Q) s=(b.dy s).map b.told:=by
 rw[gL,zTh hs,dm.ie,z2z]
 ·exact ui λr hr=>(c.QG hs hr).symm
 ·intro r hr;refine⟨λe=>c.neL hs hr (List.map_eq_nil_iff.1 e),λo ho=>(qI ho).2⟩
 ·exact(c.wk s hs).imp λh=>ND h
def dm.Core.iA {b:dm} {Q:List (List Nat)} (c:b.Core Q (-1)) {s:Int} (hs:s=1\/s=2):b.iu (b.dy s)=Sx.iA (b.flat Q) s:=by
 rw[Sx.iA,c.lad hs];cases b.dy s<;>rfl
def dm.Core.EV {b:dm} {Q:List (List Nat)} (c:b.Core Q (-1)):b.oc:=by
 intro q hq;obtain⟨n,hn⟩:=BU.1 hq;have gr:=(jl.1 hn).1;rw[c.wf.ql]at gr;obtain⟨l,hl⟩:=z7 gr;have:=c.wf.q n l hl;rw[hn]at this;cases this;have:=c.wf.toyf.short hl;constructor<;>dsimp only<;>omega
def kC (L:List zI):jr:=(j'.EW (iA L 1)).Ak (iA L 2)
def dm.fk.top {b:dm} {L:List zI} (h:b.fk L):b.top=kC L:=by
 obtain⟨Q,c,ht,rfl⟩:=h;rw[dm.top,kC,<- c.iA (.inl rfl),<- c.iA (.inr rfl)];rfl
def dm.fk.EV {b:dm} {L:List zI} (h:b.fk L):b.oc:=by
 obtain⟨Q,c,ht,rfl⟩:=h;exact c.EV
structure J7 (o:zI):Prop where
 s:o.side=1\/o.side=2
 q:1<=o.dq/\o.dq<=1000000
def dm.fk.om {b:dm} {L:List zI} (h:b.fk L):(∀o∈L,J7 o)/\(L.map (·.id)).Nodup/\L.length<=250:=by
 obtain⟨Q,c,ht,rfl⟩:=h;refine⟨λo ho=> ?_,c.ids,?_⟩
 ·obtain⟨hs,r,hr,ho,hp⟩:=pY ho;refine⟨hs,?_⟩;obtain⟨k,hk,e⟩:=pk.1 ho;obtain⟨_,⟨_,_,h2⟩,_⟩:=c.wf.toyf.mem (c.get hs hr) hk;have eq:o.dq=(b.a.ei k).dq:=by rw[<- e];rfl
  rw[eq];exact⟨c.wf.pos _ _ (c.get hs hr) _ hk,h2.q2⟩
 ·have qm:(((b.dy 1).flatMap (xD Q)++(b.dy 2).flatMap (xD Q))).Nodup:=by
   have hm:((b.flat Q).map (·.id))=((b.dy 1).flatMap (xD Q)++(b.dy 2).flatMap (xD Q)).map λk=>(b.a.ei k).id:=by
    rw[dm.flat,jk,jk,dm.ie,dm.ie,Iy,Iy,Iy,Iy];congr 1
    ·exact xE λr _=>by rw[dm.gv,vu];rfl
    ·exact xE λr _=>by rw[dm.gv,vu];rfl
   have:=c.ids;rw[hm]at this;exact List.Pairwise.of_map _ (λa b Eb e=>Eb (by rw[e])) this
  have hl:(b.flat Q).length=((b.dy 1).flatMap (xD Q)++(b.dy 2).flatMap (xD Q)).length:=by
   rw[dm.flat,im,im,dm.ie,dm.ie,MO,MO,MO,MO];congr 1
   ·congr 1;exact ui λr _=>by rw[dm.gv,ia]
   ·congr 1;exact ui λr _=>by rw[dm.gv,ia]
  rw[hl];refine VF 250 qm λk hk=> ?_
  rcases pn.1 hk with hk|hk
  ·obtain⟨r,hr,hk⟩:=AB.1 hk;exact(c.wf.toyf.mem (c.get (.inl rfl) hr) hk).1
  ·obtain⟨r,hr,hk⟩:=AB.1 hk;exact(c.wf.toyf.mem (c.get (.inr rfl) hr) hk).1
def dm.fk.fit {b:dm} {L:List zI} (h:b.fk L):b.fit:=by
 obtain⟨Q,c,ht,rfl⟩:=h;have hs:=c.small;have h1:=c.ql;have h2:=c.wf.ql;have OZ:=c.qb;rw[dm.qs,im,im,ia,ia]at h1;refine⟨⟨hs.1.1,λhf=> ?_,λq hq=> ?_⟩,oM,oM,oM,oM⟩
 ·obtain⟨k,_,hk,Dw,GH,_⟩:=c.wf.toyf.unused hf;exact⟨_,lr Dw,GH⟩
 ·obtain⟨n,hn⟩:=BU.1 hq;have gr:=(jl.1 hn).1;rw[c.wf.ql]at gr;obtain⟨l,hl⟩:=z7 gr;have:=c.wf.q n l hl;rw[hn]at this;cases this;dsimp only;rcases wT l with e|⟨y,j,e,e2⟩
  ·exact .inl ((rA l).2 e)
  ·rw[e2];have:=(c.wf.toyf.mem hl (k:=j) (by rw[e];simp)).1;rw[c.wf.len];exact .inr ⟨oM,oM⟩
def rm:Nat->List (List zI)->List (Int×Int)
 |_,[]=>[]
 |k,L::B=>L.map (λo=>(o.id,(k:Int)))++rm (k+1) B
def Aw:∀{B:List (List zI)} {n:Nat} {x:Int×Int},x∈rm n B↔∃(k:Nat) (L:List zI),B[k]? =az L/\x.1∈L.map (·.id)/\x.2=((n+k:Nat):Int)
 |[],n,x=>by simp[rm]
 |L::B,n,x=>by
  rw[rm,pn,Aw (B:=B)];constructor
  ·rintro(h|⟨k,L',h1,h2,h3⟩)
   ·obtain⟨o,ho,rfl⟩:=pk.1 h;exact⟨0,L,rfl,su (f:=(·.id)) ho,rfl⟩
   ·exact⟨k+1,L',h1,h2,by rw[h3];omega⟩
  ·rintro⟨k,L',h1,h2,h3⟩;cases k with
   |zero=>
    cases h1;obtain⟨o,ho,e⟩:=pk.1 h2;exact .inl (pk.2 ⟨o,ho,Prod.ext e h3.symm⟩)
   |succ k=>exact .inr ⟨k,L',h1,h2,by rw[h3];omega⟩
def Sc:∀{B:List (List zI)} (n k:Nat),k<B.length->∃rest,∀X:List zI,(rm n (B.set k X)).Perm (X.map (λo=>(o.id,((n+k:Nat):Int)))++rest)
 |[],n,k,h=>absurd h (by simp)
 |L::B,n,0,h=>⟨rm (n+1) B,λX=> .refl _⟩
 |L::B,n,k+1,h=>by
  obtain⟨rest,hr⟩:=Sc (B:=B) (n+1) k (by simpa using h);refine⟨L.map (λo=>(o.id,(n:Int)))++rest,λX=> ?_⟩;rw[Oy,rm];refine((hr X).append_left _).trans ?_;rw[<- jd,<- jd,show n+1+k=n+(k+1)by omega];exact AR.append_right _
structure gl.fk (s:gl) (p:fb) (B:List (List zI)):Prop where
 ep:s.p=p
 bl:s.dz.length=B.length
 bk:∀(k:Nat) (b:dm) (L:List zI),s.dz[k]? =az b->B[k]? =az L->b.fk L
 wh:s.wh.Perm (rm 0 B)
 ids:((rm 0 B).map (·.1)).Nodup
def aW (B:List (List zI)) (id:Int):Option Nat:=B.findIdx? λL=>wU L id
def g7 {B:List (List zI)} {id:Int} {k:Nat} (h:aW B id=az k):∃L,B[k]? =az L/\wU L id=ax:=by
 rw[aW,MT]at h;obtain⟨h1,h2,_⟩:=h;exact⟨_,vd h1,h2⟩
def z4v {B:List (List zI)} {id:Int} (h:aW B id=ba):∀L∈B,wU L id=ay:=by
 rw[aW,OI]at h;exact h
def Vd:∀{l:List (Int×Int)},(l.map (·.1)).Nodup->∀{k x:Int},(k,x)∈l->BQ l k=az x
 |[],_,k,x,hx=>by cases hx
 |p::l,h,k,x,hx=>by
  rw[jo,ze]at h;rw[BQ,MJ];rcases mf.1 hx with ex|hx
  ·subst ex;simp
  ·have:p.1≠k:=by rintro e;exact h.1 (e▸su (f:=(·.1)) hx)
   rw[kr this];exact Vd h.2 hx
def yEi {l:List (Int×Int)} {k:Int} (h:k∉l.map (·.1)):BQ l k=ba:=by
 rw[BQ,Option.map_eq_none_iff,List.find?_eq_none];intro x hx e;have e:x.1=k:=by simpa using e
 exact h (e▸su (f:=(·.1)) hx)
def gl.fk.keys {s:gl} {p:fb} {B:List (List zI)} (h:s.fk p B):(s.wh.map (·.1)).Nodup:=(h.wh.map (·.1)).nodup_iff.2 h.ids
def gl.fk.at_ {s:gl} {p:fb} {B:List (List zI)} (h:s.fk p B) (id:Int):BQ s.wh id=(aW B id).map (λk:Nat=>(k:Int)):=by
 cases hi:aW B id with
 |none=>
  refine yEi λhm=> ?_
  rw[(h.wh.map (·.1)).mem_iff]at hm
  obtain⟨x,hx,rfl⟩:=pk.1 hm;obtain⟨k,L,h1,h2,_⟩:=Aw.1 hx;have:=z4v hi L (lr h1);rw[jx.2 h2]at this;cases this
 |some k=>
  obtain⟨L,h1,h2⟩:=g7 hi;refine Vd h.keys (h.wh.mem_iff.2 (Aw.2 ⟨k,L,h1,jx.1 h2,by simp⟩))
def kK (B:List (List zI)) (id q:Int):List (List zI)×Int:=match aW B id with
 |none=>(B,26)
 |some k=>(B.set k (qB (B.getD k []) id q).1,(qB (B.getD k []) id q).2)
def VP {L:List zI} (h:(L.map (·.id)).Nodup) (id q:Int):((qB L id q).1.map (·.id)=L.map (·.id)/\wU (qB L id q).1 id=wU L id)\/((qB L id q).1=L.filter (λo=> !decide (o.id=id))/\wU (qB L id q).1 id=ay):=by
 rw[qB];by_cases h1:wU L id=ay
 ·rw[fc h1];exact .inl ⟨rfl,rfl⟩
 have h1:wU L id=ax:=by simpa using h1
 rw[ej (by rw[h1];decide)];by_cases h2:q<1\/(cL L id).dq<q
 ·rw[fc h2];exact .inl ⟨rfl,rfl⟩
 rw[ej h2];dsimp only;by_cases h3:(cL L id).dq=q
 ·refine .inr ?_;have e:h9 L id q=L.filter λo=> !decide (o.id=id):=by rw[<- h3];exact zVa h h1
  refine⟨e,?_⟩;rw[e,wU,MM];intro o ho;rw[ve]at ho;simpa using ho.2
 ·refine .inl ?_;have hm:(h9 L id q).map (·.id)=L.map (·.id):=by
   have:h9 L id q=L.map λo=>if o.id=id then{o with dq:=o.dq-q}else o:=by
    rw[h9,<- List.filterMap_eq_map];refine mK λo ho=> ?_
    simp only[cm];by_cases e:o.id=id
    ·have hg:=sI h ho;rw[e]at hg;rw[fc e,fc e,ej (λe2=>h3 (by rw[hg];exact e2))]
    ·rw[ej e,ej e]
   rw[this,vu];refine ui λo _=> ?_
   simp only[cm];split<;>rfl
  refine⟨hm,?_⟩;rw[IM,jx,jx,hm]
def yBw:∀{l:List (Int×Int)} {k:Int},(l.map (·.1)).Nodup->Kw k l=l.filter λx=> !decide (x.1=k)
 |[],k,_=>rfl
 |(a,b)::l,k,h=>by
  rw[jo,ze]at h;rw[Kw];by_cases e:k=a
  ·subst e;rw[fc rfl,OF (by simp)];symm;rw[OC];intro x hx;have:x.1≠k:=λe=>h.1 (e▸su (f:=(·.1)) hx)
   simp[this]
  ·rw[ej e,OG (by simp[Ne.symm e]),yBw h.2]
def z0o:∀{l:List (Int×Int)} {k x:Int},k∉l.map (·.1)->IB k x l=l++[(k,x)]
 |[],k,x,_=>rfl
 |p::l,k,x,h=>by
  rw[jo,mf,not_or]at h;rw[IB,ej h.1,z0o h.2];rfl
def uR {α:Type} {l:List α} {k:Nat} {x:α} (h:l[k]? =az x):l.set k x=l:=by
 apply He;intro i;rw[Gv];split
 ·rename_i e;subst e;rw[fc (jl.1 h).1,h]
 ·rfl
def gl.fk.set {s:gl} {p:fb} {B:List (List zI)} (h:s.fk p B) {k:Nat} {L':List zI} {b':dm} (hb:b'.fk L') (hk:k<B.length) {wh':List (Int×Int)} (hw:wh'.Perm (rm 0 (B.set k L'))) (hi:((rm 0 (B.set k L')).map (·.1)).Nodup):({s with dz:=s.dz.set k b',wh:=wh'}:gl).fk p (B.set k L'):=by
 refine⟨h.ep,by simpa using h.bl,λj b L h1 h2=> ?_,hw,hi⟩;by_cases e:k=j
 ·subst e;have h1:(s.dz.set k b')[k]? =az b:=h1;rw[f8 (by rw[h.bl];exact hk)]at h1;rw[f8 hk]at h2;cases h1;cases h2;exact hb
 ·have h1:(s.dz.set k b')[j]? =az b:=h1;rw[uE e]at h1 h2;exact h.bk j b L h1 h2
def gl.fk.take {s:gl} {p:fb} {B:List (List zI)} (h:s.fk p B) {id q:Int} {k:Nat} (hi:aW B id=az k) {L:List zI} (hL:B[k]? =az L) (hn:(L.map (·.id)).Nodup) {b':dm} (hb:b'.fk (qB L id q).1):
 ({s with dz:=s.dz.set k b',wh:=if wU (qB L id q).1 id=ax then s.wh else Kw id s.wh}:gl).fk p (kK B id q).1:=by
 have hk:=(jl.1 hL).1;have ht:(kK B id q).1=B.set k (qB L id q).1:=by simp only[kK,hi,zT hL]
 obtain⟨L2,e1,hh⟩:=g7 hi;rw[hL]at e1;cases e1;obtain⟨rest,hr⟩:=Sc (B:=B) 0 k hk;have KT:=hr L;rw[uR hL]at KT;rw[ht];rcases VP hn id q with⟨e1,e2⟩|⟨e1,e2⟩
 ·have hm:∀X Y:List zI,X.map (·.id)=Y.map (·.id)->X.map (λo=>(o.id,((0+k:Nat):Int)))=Y.map (λo=>(o.id,((0+k:Nat):Int))):=by
   intro X Y e;have:=congrArg (aa λi:Int=>(i,((0+k:Nat):Int))) e;rw[vu,vu]at this;exact this
  have hp:(rm 0 (B.set k (qB L id q).1)).Perm (rm 0 B):=by
   refine(hr _).trans ?_;rw[hm _ _ e1];exact KT.symm
  rw[e2,hh,fc rfl];exact h.set hb hk (h.wh.trans hp.symm) ((hp.map (·.1)).nodup_iff.2 h.ids)
 ·rw[e2,ej (by decide)];have Bf:∀x∈rest,x.1≠id:=by
   intro x hx e;have qm:=(KT.map (·.1)).nodup_iff.1 h.ids
   rw[jk,vu]at qm;have h1:id∈L.map ((·.1)∘λo:zI=>(o.id,((0+k:Nat):Int))):=jx.1 hh
   exact(zx.1 qm).2.2 id h1 x.1 (su (f:=(·.1)) hx) e.symm
  have hp:(rm 0 (B.set k (qB L id q).1)).Perm ((rm 0 B).filter λx=> !decide (x.1=id)):=by
   refine(hr _).trans (.trans ?_ (KT.filter _).symm);rw[e1,IS,List.filter_map];have:rest.filter (λx=> !decide (x.1=id))=rest:=by
    rw[OC];intro x hx;simp[Bf x hx]
   rw[this];exact .refl _
  refine h.set hb hk ?_ ((hp.map (·.1)).nodup_iff.2 (h.ids.sublist (List.Sublist.map _ OB)))
  rw[yBw h.keys];exact(h.wh.filter _).trans hp.symm
def Ki (p:fb) (B:List (List zI)) (inst id:Int) (s dj q:Int):List (List zI)×Int:=
 if inst<0\/B.length<=inst then(B,20)else if(aW B id).isSome=ax then(B,25)else if 250<=(rm 0 B).length then(B,13)else if p.dj inst dj≠0 then(B,p.dj inst dj)
 else(B.set inst.toNat (DX (B.getD inst.toNat []) s id dj q).1,(DX (B.getD inst.toNat []) s id dj q).2)
def yGv (L:List zI) (s id p q:Int):((GX L s id p q).map (·.id)).Perm (id::L.map (·.id)):=by
 have:∀X:List zI,((X.takeWhile (before s p)++⟨id,s,p,q,gZ L s p⟩::X.dropWhile (before s p)).map (·.id)).Perm (id::X.map (·.id)):=by
  intro X
  conv=>rhs;rw[<- xEs (p:=before s p) (l:=X)]
  rw[jk,jo,jk];exact mg
 rw[GX];split
 ·refine(this _).trans ?_;rw[yAl]
 ·exact this _
def gl.fk.add {s:gl} {p:fb} {B:List (List zI)} (h:s.fk p B) (inst id:Int) (sd:Bool) (dj q:Int):
 (gl.gx ⟨s,inst,id,sd,dj,q⟩).1.fk p (Ki p B inst id (zC sd) dj q).1/\(gl.gx ⟨s,inst,id,sd,dj,q⟩).2=(Ki p B inst id (zC sd) dj q).2:=by
 have D7:zC sd=1\/zC sd=2:=by cases sd;exact .inl rfl;exact .inr rfl
 rw[gl.gx,Ki];dsimp only;rw[h.bl,h.at_,h.wh.length_eq,show s.p.dj inst dj=p.dj inst dj by rw[h.ep],Option.isSome_map];by_cases c1:inst<0\/(B.length:Int)<=inst
 ·rw[fc c1,fc c1];exact⟨h,rfl⟩
 rw[ej c1,ej c1];by_cases c2:(aW B id).isSome=ax
 ·rw[fc c2,fc c2];exact⟨h,rfl⟩
 rw[ej c2,ej c2];by_cases c3:250<=(rm 0 B).length
 ·rw[fc c3,fc c3];exact⟨h,rfl⟩
 rw[ej c3,ej c3];by_cases c4:p.dj inst dj≠0
 ·rw[fc c4,fc c4];exact⟨h,rfl⟩
 rw[ej c4,ej c4];obtain⟨k,hk⟩:∃k:Nat,inst=k:=⟨inst.toNat,oM⟩
 subst hk;rw[ow];have pf:k<B.length:=by omega
 obtain⟨b,hb⟩:=z7 (l:=s.dz) (i:=k) (by rw[h.bl];exact pf);obtain⟨L,hL⟩:=z7 (l:=B) (i:=k) pf;have hba:s.At k=b:=by rw[gl.At,ow];exact zT hb
 rw[hba,zT hL];obtain⟨r1,r2⟩:=(h.bk k b L hb hL).add D7 id dj q;refine⟨?_,r2⟩;rw[r2];obtain⟨rest,hr⟩:=Sc (B:=B) 0 k pf;have KT:=hr L;rw[uR hL]at KT;have Rh:(DX L (zC sd) id dj q).2≠0/\(DX L (zC sd) id dj q).1=L\/(DX L (zC sd) id dj q).2=0/\(DX L (zC sd) id dj q).1=GX L (zC sd) id dj q:=by
  rw[DX]
  repeat' split
  ·exact .inl ⟨by simp,rfl⟩
  ·exact .inl ⟨by simp,rfl⟩
  ·exact .inl ⟨by simp,rfl⟩
  ·exact .inr ⟨rfl,rfl⟩
 rcases Rh with⟨e1,e2⟩|⟨e1,e2⟩
 ·rw[ej e1];refine h.set r1 pf ?_ ?_
  ·rw[e2,uR hL];exact h.wh
  ·rw[e2,uR hL];exact h.ids
 ·rw[fc e1];have Hu:id∉s.wh.map (·.1):=by
   intro hm;obtain⟨x,hx,rfl⟩:=pk.1 hm;have:=Vd h.keys hx;rw[h.at_]at this;cases hq:aW B x.1 with
   |none=>rw[hq]at this;cases this
   |some j=>rw[hq]at c2;exact c2 rfl
  have hp:(rm 0 (B.set k (DX L (zC sd) id dj q).1)).Perm ((id,(k:Int))::rm 0 B):=by
   refine(hr _).trans (.trans ?_ (KT.symm.cons _));rw[e2,<- tv];refine cn _ ?_;have:=(yGv L (zC sd) id dj q).map λi:Int=>(i,(k:Int))
   rw[vu,jo,vu]at this;rw[nw];exact this
  refine h.set r1 pf ?_ ((hp.map (·.1)).nodup_iff.2 (ze.2 ⟨?_,h.ids⟩))
  ·rw[z0o Hu];exact(OK _ _).trans ((h.wh.cons _).trans hp.symm)
  ·rw[<- (h.wh.map (·.1)).mem_iff];exact Hu
def U5:∀(n k:Nat),rm k (ab n [])=[]
 |0,_=>rfl
 |n+1,k=>by rw[KE,rm,U5];rfl
def z7j (p:fb):(bL p).fk p (ab p.count []):=by
 refine⟨rfl,by simp[bL],λk b L h1 h2=> ?_,?_,?_⟩
 ·have e1:b=lz:=T8 (lr (show(ab p.count lz)[k]? =az b from h1));have e2:L=[]:=T8 (lr h2);rw[e1,e2];exact yDg
 ·rw[U5];exact .refl _
 ·rw[U5];exact List.nodup_nil
def yUl (s:Bool):fy:=fj HI (λi=>[.nm 0 0,zA (zC s)]) (λi=>[yA i.b]) (λi=>i.b.fk i.L) (λ_=> .own 1) (λi=>[yA i.b,.own 177 3 ((gL i.L (zC s)).map kg)])
def JF:fy:=yUl ay
def JE:fy:=yUl ax
def y5p (s:Bool) (i:HI):List gj:=[{ι:=Nat,du:=λj=>[(5,.own 0),(19,zA j)],rows:=λj=>[.own 177 3 (((gL i.L (zC s)).take j).map kg)]}]
structure BkT where
 b:dm
 L:List zI
 s:Bool
def aan:fy:=fj BkT (λi=>[.nm 0 0,zA (zC i.s)]) (λi=>[yA i.b]) (λi=>i.b.fk i.L) (λ_=> .own 1) (λi=>[yA i.b,.own 177 3 ((gL i.L (zC i.s)).map kg)])
@[reducible] def yIj (s:gl):List ff:=[xO s 0,xO s 1,xO s 2,xO s 3,xO s 4]
def Fl:fy:=fj gl (λ_=>[.nm 0 0]) (λs=>yIj s) gl.oc (λs=> .own 5) (λs=>yIj s++[.own 122 6 (s.fa.map z6)])
structure AW where
 s:gl
 p:fb
 B:List (List zI)
 id:Int
 q:Int
def Fp:fy where
 ι:=AW
 pat:=λi=>[.nm 0 0,zA i.id,zA i.q]
 pre:=λi=>[zE i.s]
 dp:=λi=>i.s.fk i.p i.B/\i.B.length<=1000
 alts:=λi=>[{o:=gl,res:=λ_=>zA (kK i.B i.id i.q).2,post:=λs=>[zE s],rel:=λs=>s.fk i.p (kK i.B i.id i.q).1}]
def z5 (B:List (List zI)) (id:Int):Int×zI×Bool:=match aW B id with
 |none=>(0,y0p,ay)
 |some k=>(k,cL (B.getD k []) id,ax)
def Fs:fy:=fj AW (λi=>[.nm 0 0,zA i.id]) (λi=>[zE i.s]) (λi=>i.s.fk i.p i.B/\i.B.length<=1000) (λi=> .iW [zA (z5 i.B i.id).1,Mz (z5 i.B i.id).2.1,yL (z5 i.B i.id).2.2]) (λi=>[zE i.s])
end Sx
