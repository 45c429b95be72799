/- Texts of ours. No condition. -/
import Derived.Test.YtgmmlhddihaocaaGreatS7
set_option linter.all false
open List renaming map->aa,replicate->ab,take->ac,getElem?_modify->ae,pairwise_append->af,filter_congr->ag,length_erase_of_mem->aj,getElem?_replicate->ak,map_singleton->am,range->ao,drop->ap
open Sx.fi renaming qw->aq,cells->ar,own->au,jc->av,map->aw
open Bool renaming true->ax,false->ay
open Option renaming some->az,none->ba
open Go.Builtin renaming zeroCells->bc,firstCells->be,append_->bg
open Go.IntKind renaming i64->bo
open Go renaming Value->bu,World->bv,Program->bz,size_zeroCells->cd,TypeId->ce,Addr->cf
open Go.Value renaming int->cg,string->cm
open Function renaming comp->cn
open List.Perm renaming append_right->co,append_left->cp
namespace Sx
set_option maxRecDepth 100000
open Go Cv Go.Proofs
def yNj {l:List Int} {q r:Int} (h:yZ l q=ax) (h0:0<=r) (h1:r<=q):yZ l r=ax:=by
 obtain⟨a,b,c,d⟩:=jN h;have e:(l.all λn=>decide (1<=n) && decide (n<=1000000))=ax:=by
  rw[DB];intro x hx;simpa using c x hx
 rw[yZ,e,lg a,lg h0,lg (show r<=l.sum by omega)];rfl
def getD_none {l:List Int} {n:Nat} (h:l[n]? =ba):l.getD n 0=0:=by rw[nk,h];rfl
def Y8 {l:List Int} {q:Int} (h:yZ l q=ax) (n:Nat):0<=l.getD n 0/\l.getD n 0<=1000000:=by
 cases hn:l[n]? with
 |none=>rw[getD_none hn];decide
 |some x=>rw[zT hn];have:=(jN h).2.2.1 x (lq hn);omega
def yGc {l:List Int} {q:Int} (h:yZ l q=ax) (n:Nat):0<=(gM l q).getD n 0/\(gM l q).getD n 0<=l.getD n 0:=by
 rw[gM,fh h];obtain⟨a,b,c,d⟩:=jN h;cases hn:l[n]? with
 |none=>
  have:(gA l q)[n]? =ba:=by rw[List.getElem?_eq_none_iff,Ot];exact List.getElem?_eq_none_iff.1 hn
  rw[getD_none hn,getD_none this];decide
 |some x=>
  rw[zT hn,zT (Xm l q n x hn)];have:=XM l q n b (λy hy=>by have:=c y hy;omega);have:=c x (lq hn);omega
def y7r (i:Jw) (h:Qb.dq i):y5y i:=by
 obtain⟨hl,hq,hle,Vd⟩:i.l.length<=1000000/\gx i.q/\gx i.least/\gx i.part:=h;unfold y5y S' wR;have no (e:¬(yZ i.l i.q=ax/\0<=i.part/\i.part<=100/\1<=i.least)):B4 i=[]:=by rw[B4,fb e]
 refine⟨⟨i.l,i.q⟩,rfl,rfl,⟨hl,hq⟩,λ_ _=>Cv.dq.mk (λc=> ?_) (λc=>zH (λd=> ?_) (λd=>zH (λe=> ?_) (λe=>zH (λf=> ?_) (λf=> ?_))))⟩
 ·have c:yZ i.l i.q=ay:=by simpa using c
  exact⟨(),by rw[no (by rw[c];simp)];rfl,trivial⟩
 ·exact⟨(),by rw[no (by omega)];rfl,trivial⟩
 ·exact⟨(),by rw[no (by omega)];rfl,trivial⟩
 ·exact⟨(),by rw[no (by omega)];rfl,trivial⟩
 have c:yZ i.l i.q=ax:=by simpa using c
 obtain⟨h1,h2,h3,h4⟩:=jN c;have rl:=SE c;have m0:0<=i.q*i.part:=MV h2 oM;have m1:i.q*i.part<=i.q*100:=UO oM h2;have hr:=yNj (r:=i.q*i.part / 100) c oM oM;have es:B4 i=pQ i.rs:=by rw[B4,fh ⟨c,by omega,by omega,by omega⟩]
 refine⟨⟨i.q,i.part,100⟩,rfl,rfl,rfl,⟨Z9,Z9,Z9,Z9,Z9,Z9⟩,λ_ _=>⟨⟨i.l,i.q*i.part / 100⟩,rfl,rfl,⟨hl,Z9,Z9⟩,λ_ _=>⟨i.rs,rfl,rfl,?_,rfl,⟨h1,?_,?_,hle,?_⟩,λ_ _=>⟨(),by rw[es],trivial⟩⟩⟩⟩
 ·rw[iA (by dsimp only;omega)];rfl
 ·show(gM i.l (i.q*i.part / 100)).length=i.l.length;rw[gM,fh hr,Ot]
 ·show gx (i.q-i.q*i.part / 100);exact⟨oM,oM⟩
 ·intro n;have a:=yGc hr n;have b:=Y8 c n;exact⟨a.1,a.2,b.2⟩
def yZm:Qb.ok Tryz.prog 252:=ib mixed (dx Tn (dx zTz (dx yCc (dx yCb fj)))) 0 (λ_=>[]) (λ_=>[]) [] Tryz.func252 y7r
def y1i (n:Nat):ab n [D.v (.int .i64 0)]=iE (ab n 0):=by simp[iE]
def z3h (n k:Nat):(ab n (0:Int)).getD k 0=0:=by
 rw[nk,ak];split<;>rfl
def yIc (n t k:Nat) (x:Int):((ab n (0:Int)).set t x).getD k 0=x/\k=t\/((ab n (0:Int)).set t x).getD k 0=0:=by
 rw[nk,GF];split
 ·rename_i e;split
  ·exact .inl ⟨rfl,e.symm⟩
  ·exact .inr rfl
 ·right;rw[<- nk];exact z3h n k
def y8f (i:u') (h:Qf.dq i):y4o i:=by
 obtain⟨hl,hq,hle,hmo⟩:i.l.length<=1000000/\gx i.q/\gx i.least/\gx i.most:=h;unfold y4o Xl lX W6 Wy S' wR dI;have no (e:¬(yZ i.l i.q=ax/\1<=i.least/\0<=i.most)):CE i=[]:=by rw[CE,fb e]
 refine⟨⟨i.l,i.q⟩,rfl,rfl,⟨hl,hq⟩,λ_ _=>Cv.dq.mk (λc=> ?_) (λc=>zH (λd=> ?_) (λd=>zH (λe=> ?_) (λe=> ?_)))⟩
 ·have c:yZ i.l i.q=ay:=by simpa using c
  exact⟨(),by rw[no (by rw[c];simp)];rfl,trivial⟩
 ·exact⟨(),by rw[no (by omega)];rfl,trivial⟩
 ·exact⟨(),by rw[no (by omega)];rfl,trivial⟩
 have c:yZ i.l i.q=ax:=by simpa using c
 obtain⟨h1,h2,h3,h4⟩:=jN c;have rl:=SE c;have es:CE i=pQ i.rs:=by rw[CE,fh ⟨c,by omega,by omega⟩]
 simp only[y4,oF,y1i];have out (hn:¬(0<=i.top/\i.top<(i.l.length:Int))):i.rs=⟨i.l,ab i.l.length 0,i.least,i.q⟩:=by rw[u'.rs,fb hn]
 have ok0:py.ok ⟨i.l,ab i.l.length 0,i.least,i.q⟩:=⟨h1,by simp,hq,hle,λn=>by
  have:=Y8 c n;dsimp only;rw[z3h];omega⟩
 refine⟨⟨oM,oM,oM,oM⟩,zH (λa=>zH (λb=> ?_) (λb=> ?_)) (λa=> ?_)⟩
 ·obtain⟨n,hn⟩:=z6 (l:=i.l) (i:=i.top.toNat) oM;have hf:i.first=min (min n i.most) i.q:=by rw[u'.first,zT hn]
  have bn:=h3 n (lq hn);have GO:(ab i.l.length (0:Int))[i.top.toNat]? =az 0:=by rw[ak,fh (by omega)]
  have ers:i.rs=⟨i.l,(ab i.l.length 0).set i.top.toNat i.first,i.least,i.q-i.first⟩:=by rw[u'.rs,fh ⟨by omega,by omega⟩]
  refine⟨⟨oM,oM⟩,n,rk hn,?_⟩;rw[Sl GO,<- hf];simp only[y4,qv,GH];refine⟨⟨oM,oM⟩,oM,⟨oM,oM⟩,i.first,rk (hU GO),?_⟩;rw[iA (x:=i.q-i.first) (by omega)];refine⟨⟨i.l,(ab i.l.length 0).set i.top.toNat i.first,i.least,i.q-i.first⟩,iT ⟨rfl,⟨h1,by simp,⟨Z9,Z9⟩,hle,λk=> ?_⟩,λ_ _=>⟨(),by rw[es,ers],trivial⟩⟩⟩;have bk:=Y8 c k;dsimp only;rcases yIc i.l.length i.top.toNat k i.first with⟨g,gk⟩|g
  ·rw[g,gk,zT hn];omega
  ·rw[g];omega
 ·refine⟨⟨i.l,ab i.l.length 0,i.least,i.q⟩,iT ⟨rfl,ok0,λ_ _=>⟨(),by rw[es,out (by omega)],trivial⟩⟩⟩
 ·refine⟨⟨i.l,ab i.l.length 0,i.least,i.q⟩,iT ⟨rfl,ok0,λ_ _=>⟨(),by rw[es,out (by omega)],trivial⟩⟩⟩
def y0z:Qf.ok Tryz.prog 251:=ib mixed (dx Tn (dx yCb fj)) 0 (λ_=>[]) (λ_=>[]) [] Tryz.func251 y8f
structure Ck where
 p:ff
 l:List zI
 q:Int
def Ck.qs (i:Ck):List Int:=i.l.map (·.dr)
def kJ (i:Ck):List Int:=if i.p.dt=1 then gM i.qs i.q else if i.p.dt=2 then CE ⟨i.qs,iZ i.l,i.p.top,i.p.least,i.q⟩else if i.p.dt=3 then B4 ⟨i.qs,i.p.part,i.p.least,i.q⟩else[]
def Gb:gi:=fp Ck (λi=>[oe i.p,oD 5 (i.l.map vI),zA i.q]) (λ_=>[]) (λi=>i.l.length<=1000/\gx i.q/\gx i.p.least/\gx i.p.top/\gx i.p.part) (λ_=> .own 0) (λi=>[.own 2 1 (iE (kJ i))])
def y0q (i:Ck):List gp:=[{ι:=Nat,dv:=λj=>[(7,.own 0),(13,zA j)],rows:=λj=>[.own 2 1 (iE (i.qs.take j))]}]
def yHx (i:Ck):Prop:=
 ∃(a:Nat),(↑a:Int)=0/\iE (ac a i.qs)=[]/\∃(b:Nat->Prop),∃(c:Nat->Nat),b a/\∀(d:Nat),b d->dq (decide ((↑d:Int)<(↑(aa vI i.l).length:Int))) ((0<=(↑d:Int)/\(↑d:Int)<(↑(aa vI i.l).length:Int))/\∃(e:Int),∃(f:Int),∃(g:Int),∃(h:Int),∃(j:Bool),zD (aa vI i.l) (↑d:Int).toNat 0 5=az [dI e,dI f,dI g,dI h,D.v (.bool j)]/\((iE (ac d i.qs)).length+1)*(8:Nat)<=(140737488355328:Nat)/\∃(k:Nat),(↑k:Int)=bo.wrap ((↑d:Int)+1)/\iE (ac k i.qs)=iE (ac d i.qs)++[[dI h]]/\b k/\c k<c d/\dj (ar [V.d (D.v (cm (sb i.p.code))),V.own 0,V.d (dI i.p.tick),V.d (dI i.p.low),V.d (dI i.p.high),V.d (dI i.p.wide),V.d (dI i.p.dt),V.d (dI i.p.top),V.d (dI i.p.least),V.d (dI i.p.part),V.own 1] 25)/\dj (av 1 (iE i.p.settle))/\dj (av 1 (iE i.p.dm))) (dq (i.p.dt==1) (∃(e:BW),iE e.l=iE (ac d i.qs)/\e.q=i.q/\(wR e)/\∀(f:Unit),True->∃(g:Unit),iE (kJ i)=iE (gM e.l e.q)/\True) (dq (i.p.dt==2) (∃(e:List zI),aa vI e=aa vI i.l/\e.length<=1000000/\∀(f:Unit),True->∃(g:u'),iE g.l=iE (ac d i.qs)/\g.top=iZ e/\g.most=i.p.top/\g.least=i.p.least/\g.q=i.q/\(g.l.length<=1000000/\((-9223372036854775808)<=g.q/\g.q<=9223372036854775807)/\((-9223372036854775808)<=g.least/\g.least<=9223372036854775807)/\(-9223372036854775808)<=g.most/\g.most<=9223372036854775807)/\∀(h:Unit),True->∃(j:Unit),iE (kJ i)=iE (CE g)/\True) (dq (i.p.dt==3) (∃(e:Jw),iE e.l=iE (ac d i.qs)/\e.part=i.p.part/\e.least=i.p.least/\e.q=i.q/\(e.l.length<=1000000/\((-9223372036854775808)<=e.q/\e.q<=9223372036854775807)/\((-9223372036854775808)<=e.least/\e.least<=9223372036854775807)/\(-9223372036854775808)<=e.part/\e.part<=9223372036854775807)/\∀(f:Unit),True->∃(g:Unit),iE (kJ i)=iE (B4 e)/\True) (∃(e:Unit),iE (kJ i)=[]/\True))))
def yXx (i:Ck) (h:Gb.dq i):yHx i:=by
 obtain⟨hl,hq,hle,tp,Vd⟩:i.l.length<=1000/\gx i.q/\gx i.p.least/\gx i.p.top/\gx i.p.part:=h;have HI:i.qs.length=i.l.length:=by simp[Ck.qs]
 unfold yHx wR dI;simp only[y4,im];refine⟨0,by(first|exact rfl|exact trivial),by(first|exact rfl|exact trivial),λj=>j<=i.l.length,λj=>i.l.length-j,mz _,λj hj=>zH (λc=> ?_) (λc=> ?_)⟩
 ·have ov:j<i.l.length:=by omega
  obtain⟨o,ho⟩:=z6 (l:=i.l) (i:=j) ov;have hqo:i.qs[j]? =az o.dr:=by rw[Ck.qs,vc,ho];rfl
  refine⟨⟨oM,oM⟩,o.id,o.side,o.dk,o.dr,o.top,y1r ho,by rw[om];omega,j+1,rf oM,?_,ov,Z9,gu⟩;rw[tb,hqo];simp[iE]
 have E7:j=i.l.length:=by omega
 subst E7;rw[oh (l:=i.qs) (by omega)];refine Cv.dq.mk (λa=> ?_) (λa=>Cv.dq.mk (λb=> ?_) (λb=>Cv.dq.mk (λd=> ?_) (λd=> ?_)))
 ·have a:i.p.dt=1:=by simpa using a
  exact⟨⟨i.qs,i.q⟩,rfl,rfl,⟨Z9,hq⟩,λ_ _=>⟨(),by rw[kJ,fh a],trivial⟩⟩
 ·have a:¬i.p.dt=1:=by simpa using a
  have b:i.p.dt=2:=by simpa using b
  exact⟨i.l,rfl,oM,λ_ _=>⟨⟨i.qs,iZ i.l,i.p.top,i.p.least,i.q⟩,nn ⟨rfl,⟨Z9,hq,hle,tp⟩,λ_ _=>⟨(),by rw[kJ,fb a,fh b],trivial⟩⟩⟩⟩
 ·have a:¬i.p.dt=1:=by simpa using a
  have b:¬i.p.dt=2:=by simpa using b
  have d:i.p.dt=3:=by simpa using d
  exact⟨⟨i.qs,i.p.part,i.p.least,i.q⟩,iT ⟨rfl,⟨Z9,hq,hle,Vd⟩,λ_ _=>⟨(),by rw[kJ,fb a,fb b,fh d],trivial⟩⟩⟩
 ·have a:¬i.p.dt=1:=by simpa using a
  have b:¬i.p.dt=2:=by simpa using b
  have d:¬i.p.dt=3:=by simpa using d
  exact⟨(),by rw[kJ,fb a,fb b,fb d];rfl,trivial⟩
def yGj:Gb.ok Tryz.prog 238:=ib mixed (dx yCc (dx yGd (dx y0z (dx yZm fj)))) 0 (λ_=>[]) (λi=>y0q i) [] Tryz.func238 yXx
def vZ (l:List Nat) (t:Int):Int:=match l with
 |[]=>t
 |k::_=>k
def kW:List Nat->Int->Int
 |[],p=>p
 |k::l,_=>kW l k
structure Sn (s:Slot) (n k:Nat) (p t:Int):Prop where
 used:s.used=ax
 no:s.n=k
 queue:s.queue=n
 ahead:s.ahead=p
 back:s.back=t
 q1:0<=s.dr
 q2:s.dr<=1000000
def yi (sl:List Slot) (n:Nat):Int->List Nat->Int->Prop
 |_,[],_=>True
 |p,k::l,t=>(∃s,sl[k]? =az s/\Sn s n k p (vZ l t))/\yi sl n k l t
def XU (l1 l2:List Nat) (t:Int):vZ (l1++l2) t=vZ l1 (vZ l2 t):=by cases l1<;>rfl
def aJ:∀(l1 l2:List Nat) (p:Int),kW (l1++l2) p=kW l2 (kW l1 p)
 |[],l2,p=>rfl
 |k::l1,l2,p=>aJ l1 l2 k
def MB {sl:List Slot} {n:Nat}:∀{l1 l2:List Nat} {p t:Int},yi sl n p (l1++l2) t↔yi sl n p l1 (vZ l2 t)/\yi sl n (kW l1 p) l2 t
 |[],l2,p,t=>by simp[yi,kW]
 |k::l1,l2,p,t=>by
  rw[uc,yi,yi,XU,MB,kW,and_assoc]
def yBu {sl:List Slot} {n k:Nat}:∀{l:List Nat} {p t:Int},yi sl n p l t->k∈l->∃s p' t',sl[k]? =az s/\Sn s n k p' t'
 |j::l,p,t,h,hk=>by
  rcases mn.1 hk with rfl|hk
  ·obtain⟨⟨s,h1,h2⟩,_⟩:=h;exact⟨s,_,_,h1,h2⟩
  ·exact yBu h.2 hk
def vO {sl O8:List Slot} {n:Nat}:∀{l:List Nat} {p t:Int},(∀k∈l,O8[k]? =sl[k]?)->yi sl n p l t->yi O8 n p l t
 |[],p,t,_,h=>h
 |k::l,p,t,e,⟨⟨s,h1,h2⟩,h3⟩=>⟨⟨s,by rw[e k jm];exact h1,h2⟩,vO (λj hj=>e j (kg _ hj)) h3⟩
def cL {α:Type} {l:List α} {f:α->α} {i j:Nat} (h:i≠j):(l.modify i f)[j]? =l[j]? :=by rw[ae];cases l[j]? <;>simp[h]
def lS {α:Type} {l:List α} {f:α->α} {i:Nat} {x:α} (h:l[i]? =az x):(l.modify i f)[i]? =az (f x):=by rw[ae,h];simp
def uG {α:Type} {l:List α} {x:α} {i j:Nat} (h:i≠j):(l.set i x)[j]? =l[j]? :=by rw[GF,fb h]
def fW {α:Type} {l:List α} {x:α} {i:Nat} (h:i<l.length):(l.set i x)[i]? =az x:=by rw[GF,fh rfl,fh h]
def aB {α:Type} {Q:List α} {n m:Nat} {x y:α} (h:(Q.set n x)[m]? =az y):(m=n/\y=x)\/(m≠n/\Q[m]? =az y):=by
 by_cases e:n=m
 ·subst e;have hn:n<Q.length:=by
   have:=(jv.1 h).1;simpa using this
  rw[fW hn]at h;cases h;exact .inl ⟨rfl,rfl⟩
 ·rw[uG e]at h;exact .inr ⟨λc=>e c.symm,h⟩
def z1v {sl:List Slot} {n k:Nat} {l:List Nat} {p t:Int} (t':Int) (hk:k∉l) (h:yi sl n p (l++[k]) t):yi (sl.modify k λs=>{s with back:=t'}) n p (l++[k]) t':=by
 rw[MB]at h ⊢;obtain⟨h1,⟨s,h2,h3⟩,_⟩:=h;refine⟨vO (λj hj=>cL (λe=>hk (e▸hj))) h1,⟨_,lS h2,?_⟩,trivial⟩;exact⟨h3.used,h3.no,h3.queue,h3.ahead,rfl,h3.q1,h3.q2⟩
def yEj {sl:List Slot} {n k:Nat} {l:List Nat} {p t:Int} (p':Int) (hk:k∉l) (h:yi sl n p (k::l) t):yi (sl.modify k λs=>{s with ahead:=p'}) n p' (k::l) t:=by
 obtain⟨⟨s,h1,h2⟩,h3⟩:=h;refine⟨⟨_,lS h1,?_⟩,vO (λj hj=>cL (λe=>hk (e▸hj))) h3⟩;exact⟨h2.used,h2.no,h2.queue,rfl,h2.back,h2.q1,h2.q2⟩
def wY (l:List Nat):l=[]\/∃(x:List Nat) (j:Nat),l=x++[j]/\∀p:Int,kW l p=(j:Int):=by
 rcases List.eq_nil_or_concat l with rfl|⟨x,j,rfl⟩
 ·exact .inl rfl
 ·exact .inr ⟨x,j,by simp,λp=>by rw[List.concat_eq_append,aJ];rfl⟩
def pV (l:List Nat):kW l (-1)= -1↔l=[]:=by
 rcases wY l with rfl|⟨x,j,rfl,e⟩
 ·simp[kW]
 ·rw[e];simp
def zUc (l:List Nat):vZ l (-1)= -1↔l=[]:=by
 cases l with
 |nil=>simp[vZ]
 |cons k l=>simp only[vZ];constructor
            ·intro h;omega
            ·intro h;cases h
def Ms {α β:Type} {g:α->β} {f:α->α} (h:∀x,g (f x)=g x):∀(l:List α) (i:Nat),(l.modify i f).map g=l.map g
 |[],i=>by simp
 |a::l,0=>by simp[h]
 |a::l,i+1=>by rw[OU,jx,jx,Ms h l i]
def WR:∀(m:Nat) {l:List Nat},l.Nodup->(∀k∈l,k<m)->l.length<=m
 |0,[],_,_=>lk 0
 |0,k::l,_,h=>absurd (h k jm) oM
 |m+1,l,hn,h=>by
  have:=WR m (hn.erase m) λk hk=>by
   have:=(hn.mem_erase_iff).1 hk;have:=h k this.2;omega
  by_cases hm:m∈l
  ·rw[aj hm]at this;omega
  ·rw[List.erase_of_not_mem hm]at this;omega
def yBo {f g:Nat->Int} {k:Nat}:∀{l:List Nat},l.Nodup->k∈l->(∀j∈l,j≠k->g j=f j)->(l.map g).sum=(l.map f).sum+(g k-f k)
 |j::l,hn,hk,h=>by
  have hn:=zk.1 hn;rw[jx,jx,ra,ra];rcases mn.1 hk with rfl|hk
  ·have:l.map g=l.map f:=uv λi hi=>h i (kg _ hi) (λe=>hn.1 (e▸hi))
   rw[this];omega
  ·have e:=h j jm (λe=>hn.1 (e▸hk));rw[yBo hn.2 hk (λi hi=>h i (kg _ hi)),e];omega
def yGf {f:Nat->Int} {m:Int}:∀{l:List Nat},(∀j∈l,0<=f j/\f j<=m)->0<=(l.map f).sum/\(l.map f).sum<=m*l.length
 |[],_=>by simp
 |j::l,h=>by
  have:=h j jm;have:=yGf (l:=l) λi hi=>h i (kg _ hi)
  rw[jx,ra,iJ,Int.natCast_add,Int.mul_add];simp only[Int.natCast_one,Int.mul_one];omega
def du.oP (a:du) (l:List Nat):Int:=(l.map λk=>(a.fa k).dr).sum
structure du.yo (a:du) (Q:List (List Nat)):Prop where
 len:a.dv.length=250
 ql:a.dz.length=Q.length
 q:∀(n:Nat) (l:List Nat),Q[n]? =az l->a.dz[n]? =az ⟨vZ l (-1),kW l (-1),a.oP l,l.length⟩
 sg:∀(n:Nat) (l:List Nat),Q[n]? =az l->yi a.dv n (-1) l (-1)
 nd:∀(n:Nat) (l:List Nat),Q[n]? =az l->l.Nodup
 us:∀(k:Nat) (s:Slot),a.dv[k]? =az s->s.used=ax->∃(n:Nat) (l:List Nat),Q[n]? =az l/\k∈l
 free:a.free=((a.dv.map (·.used)).countP (!·):Nat)
structure du.Wf (a:du) (Q:List (List Nat)):Prop extends a.yo Q where
 pos:∀(n:Nat) (l:List Nat),Q[n]? =az l->∀k∈l,1<=(a.fa k).dr
def du.yo.mem {a:du} {Q:List (List Nat)} (h:a.yo Q) {n k:Nat} {l:List Nat} (hl:Q[n]? =az l) (hk:k∈l):k<250/\(∃p t,Sn (a.fa k) n k p t)/\a.dv[k]? =az (a.fa k):=by
 obtain⟨s,p,t,h1,h2⟩:=yBu (h.sg n l hl) hk;have e:a.fa k=s:=zT h1;have gv:=(jv.1 h1).1;rw[h.len]at gv;exact⟨gv,⟨p,t,by rw[e];exact h2⟩,by rw[e];exact h1⟩
def du.yo.one {a:du} {Q:List (List Nat)} (h:a.yo Q) {n m k:Nat} {l l':List Nat} (hl:Q[n]? =az l) (hl':Q[m]? =az l') (hk:k∈l) (rh:k∈l'):n=m:=by
 obtain⟨_,⟨_,_,h1⟩,_⟩:=h.mem hl hk;obtain⟨_,⟨_,_,h2⟩,_⟩:=h.mem hl' rh;have:=h1.queue;have:=h2.queue;omega
def du.yo.short {a:du} {Q:List (List Nat)} (h:a.yo Q) {n:Nat} {l:List Nat} (hl:Q[n]? =az l):l.length<=250:=WR 250 (h.nd n l hl) λk hk=>(h.mem hl hk).1
def mJ {a a':du} {l:List Nat} (h:∀k∈l,(a'.fa k).dr=(a.fa k).dr):a'.oP l=a.oP l:=by rw[du.oP,du.oP,uv h]
def du.yo.sum {a:du} {Q:List (List Nat)} (h:a.yo Q) {n:Nat} {l:List Nat} (hl:Q[n]? =az l):0<=a.oP l/\a.oP l<=250000000:=by
 have:=yGf (f:=λk=>(a.fa k).dr) (m:=1000000) (l:=l) λj hj=>by
  obtain⟨_,⟨_,_,h1⟩,_⟩:=h.mem hl hj;exact⟨h1.q1,h1.q2⟩
 have:=h.short hl;rw[du.oP];omega
def zVo {sl:List Slot} {n:Nat}:∀{l:List Nat} {p:Int},yi sl n p l (-1)->Ow sl (vZ l (-1)) l
 |[],p,_=>rfl
 |k::l,p,⟨⟨s,h1,h2⟩,h3⟩=>by
  refine⟨rfl,(jv.1 h1).1,?_⟩;rw[zT h1,h2.back];exact zVo h3
def du.yo.ok {a:du} {Q:List (List Nat)} (h:a.yo Q):a.DP:=by
 refine⟨by rw[h.len];decide,λk s hk hu=> ?_⟩;obtain⟨n,l,hl,qj⟩:=h.us k s hk hu;have hQ:=(jv.1 hl).1;have HI:=h.ql;obtain⟨l1,l2,rfl⟩:=List.append_of_mem qj;have Ji:=h.sg n _ hl;have qt:=h.nd n _ hl;rw[MB]at Ji;obtain⟨_,⟨s',h1,h2⟩,_⟩:=Ji;rw[hk]at h1;cases h1;have hq:=h2.queue;have hd:=Af.1 qt;have zq:=zk.1 hd.2.1;refine⟨⟨oM,oM⟩,h2.q2,?_,?_⟩
 ·rw[h2.ahead];rcases wY l1 with rfl|⟨x,j,rfl,e⟩
  ·exact .inl rfl
  ·have hj:j∈x++[j]:=by simp
   have El:=(h.mem hl (yg _ hj)).1;rw[e,h.len];refine .inr ⟨oM,oM,λe2=> ?_⟩;have:j=k:=by omega
   exact hd.2.2 j hj k jm this
 ·rw[h2.back];cases l2 with
  |nil=>exact .inl rfl
  |cons j x=>
   have El:=(h.mem hl (zn _ (kg _ jm))).1;rw[vZ,h.len];refine .inr ⟨oM,oM,λe2=> ?_⟩;have:j=k:=by omega
   exact zq.1 (this▸jm)
def du.yo.open {a:du} {Q:List (List Nat)} (h:a.yo Q):a.rr.yo (Q++[[]]):=by
 have g:∀{n:Nat} {l:List Nat},(Q++[[]])[n]? =az l->Q[n]? =az l\/(n=Q.length/\l=[]):=by
  intro n l hl;rw[List.getElem?_append]at hl;split at hl
  ·exact .inl hl
  ·rename_i hn;have:=(jv.1 hl).1;simp only[AN]at this;have e:n-Q.length=0:=by omega
   rw[e]at hl;cases hl;exact .inr ⟨oM,rfl⟩
 refine⟨h.len,by simp[du.rr,h.ql],λn l hl=> ?_,λn l hl=> ?_,λn l hl=> ?_,λk s hk hu=> ?_,h.free⟩
 ·rcases g hl with hl|⟨rfl,rfl⟩
  ·show(a.dz++[mA])[n]? =_;rw[Ec (by have:=(jv.1 hl).1;have:=h.ql;omega)];exact h.q n l hl
  ·show(a.dz++[mA])[_]? =_;rw[<- h.ql,B7 (lk _),I0];rfl
 ·rcases g hl with hl|⟨rfl,rfl⟩
  ·exact h.sg n l hl
  ·trivial
 ·rcases g hl with hl|⟨rfl,rfl⟩
  ·exact h.nd n l hl
  ·exact List.nodup_nil
 ·obtain⟨n,l,hl,qj⟩:=h.us k s hk hu;exact⟨n,l,by rw[Ec (jv.1 hl).1];exact hl,qj⟩
def du.Wf.open {a:du} {Q:List (List Nat)} (h:a.Wf Q):a.rr.Wf (Q++[[]]):=by
 refine⟨h.toyo.open,λn l hl k hk=> ?_⟩;rw[List.getElem?_append]at hl;split at hl
 ·exact h.pos n l hl k hk
 ·have:=(jv.1 hl).1;simp only[AN]at this;have e:n-Q.length=0:=by omega
  rw[e]at hl;cases hl;cases hk
def WU {sl O8:List Slot} {n:Nat}:∀{l:List Nat} {p t:Int},(∀k∈l,∀s,sl[k]? =az s->∃s',O8[k]? =az s'/\s'.used=s.used/\s'.n=s.n/\s'.queue=s.queue/\s'.ahead=s.ahead/\s'.back=s.back/\0<=s'.dr/\s'.dr<=1000000)->yi sl n p l t->yi O8 n p l t
 |[],p,t,_,h=>h
 |k::l,p,t,e,⟨⟨s,h1,h2⟩,h3⟩=>by
  obtain⟨s',q0,q1,q2,q3,q4,q5,q6,q7⟩:=e k jm s h1;exact⟨⟨s',q0,⟨q1.trans h2.used,q2.trans h2.no,q3.trans h2.queue,q4.trans h2.ahead,q5.trans h2.back,q6,q7⟩⟩,WU (λj hj=>e j (kg _ hj)) h3⟩
def VO (a:du) (n:Int) (t:Bool) (j:Nat):(a.mi n t).fa j=if a.iz n=ax/\j=n.toNat then{a.fa j with top:=t}else a.fa j:=by
 rw[du.mi];by_cases hu:a.iz n=ax
 ·rw[fh hu];by_cases e:j=n.toNat
  ·subst e;rw[fh ⟨hu,rfl⟩];have gv:n.toNat<a.dv.length:=by
    simp only[du.iz,lr,ud]at hu;omega
   show(a.dv.modify n.toNat _).getD n.toNat iH=_;obtain⟨s,hs⟩:=z6 gv;rw[zT (lS hs),xR hs]
  ·rw[fb (λh=>e h.2)];show(a.dv.modify n.toNat _).getD j iH=a.dv.getD j iH;rw[nk,cL (λh=>e h.symm),nk]
 ·rw[fb hu,fb (λh=>hu h.1)]
def du.Wf.top {a:du} {Q:List (List Nat)} (h:a.Wf Q) (n:Int) (t:Bool):(a.mi n t).Wf Q:=by
 have hq:∀j,((a.mi n t).fa j).dr=(a.fa j).dr:=by
  intro j;rw[VO];split<;>rfl
 by_cases hu:a.iz n=ax
 ·have e:a.mi n t={a with dv:=a.dv.modify n.toNat λs=>{s with top:=t}}:=by rw[du.mi,fh hu]
  have hm:∀(k:Nat) (s:Slot),a.dv[k]? =az s->∃s',(a.mi n t).dv[k]? =az s'/\s'.used=s.used/\s'.n=s.n/\s'.queue=s.queue/\s'.ahead=s.ahead/\s'.back=s.back/\s'.dr=s.dr:=by
   intro k s hk;rw[e];by_cases ek:n.toNat=k
   ·subst ek;exact⟨_,lS hk,rfl,rfl,rfl,rfl,rfl,rfl⟩
   ·exact⟨s,by rw[cL ek];exact hk,yj rfl⟩
  have hl:(a.mi n t).dv.length=250:=by rw[e];simpa using h.len
  have K3:(a.mi n t).dv.map (·.used)=a.dv.map (·.used):=by rw[e];exact Ms (g:=λs:Slot=>s.used) (f:=λs:Slot=>{s with top:=t}) (λ_=>rfl) _ _
  refine⟨⟨hl,by rw[e];exact h.ql,λm l Ak=> ?_,λm l Ak=> ?_,h.nd,λk s hk hs=> ?_,by rw[K3];rw[e];exact h.free⟩,λm l Ak k hk=>by rw[hq];exact h.pos m l Ak k hk⟩
  ·rw[mJ λk _=>hq k];rw[e];exact h.q m l Ak
  ·refine WU (λk hk s hs=> ?_) (h.sg m l Ak);obtain⟨s',q0,q1,q2,q3,q4,q5,q6⟩:=hm k s hs;obtain⟨_,⟨_,_,h2⟩,h3⟩:=h.mem Ak hk;rw[hs]at h3;cases h3;exact⟨s',q0,q1,q2,q3,q4,q5,by rw[q6];exact h2.q1,by rw[q6];exact h2.q2⟩
  ·have gv:=(jv.1 hk).1;rw[hl,<- h.len]at gv;obtain⟨s0,h0⟩:=z6 gv;obtain⟨s',q0,q1,_⟩:=hm k s0 h0;rw[hk]at q0;cases q0;exact h.us k s0 h0 (by rw[<- q1];exact hs)
 ·have e:a.mi n t=a:=by rw[du.mi,fb hu]
  rw[e];exact h
def zOq {sl:List Slot} {k:Nat} {s x:Slot} (hk:sl[k]? =az s):((sl.set k x).map (·.used)).countP (!·)+(if s.used=ax then 0 else 1)=(sl.map (·.used)).countP (!·)+(if x.used=ax then 0 else 1):=by
 have gv:=(jv.1 hk).1;have e:(sl.map (·.used))[k]'(by simpa using gv)=s.used:=by
  rw[List.getElem_map,(jv.1 hk).2]
 rw[List.map_set,List.countP_set (by simpa using gv),e];have hp:s.used=ay->1<=(sl.map (·.used)).countP (!·):=by
  intro h;apply List.countP_pos_iff.2;exact⟨s.used,tc (lq hk),by rw[h];rfl⟩
 generalize (sl.map (·.used)).countP (!·)=c at hp ⊢
 cases h1:s.used<;>cases h2:x.used
 all_goals
  simp only[h1,I4,Bool.not_true,oK,↓reduceIte,if_true,if_false]at hp ⊢
  try have hp:=hp trivial
  omega
def yCa {sl:List Slot}:(sl.map (·.used)).countP (!·)<=sl.length:=by
 have:=List.countP_le_length (p:=λb:Bool=> !b) (l:=sl.map (·.used))
 simpa using this
def du.yo.unused {a:du} {Q:List (List Nat)} (h:a.yo Q) (hf:a.free≠0):∃k:Nat,jC a.dv=k/\k<250/\a.dv[k]? =az (a.fa k)/\(a.fa k).used=ay/\∀(n:Nat) (l:List Nat),Q[n]? =az l->k∉l:=by
 have hx:∃s∈a.dv,s.used=ay:=by
  have hp:0<(a.dv.map (·.used)).countP (!·):=by have:=h.free;omega
  obtain⟨b,hb,nh⟩:=List.countP_pos_iff.1 hp;obtain⟨s,hs,rfl⟩:=pj.1 hb;exact⟨s,hs,by simpa using nh⟩
 obtain⟨s,hs,hu⟩:=hx;cases hi:a.dv.findIdx? λs=> !s.used with
 |none=>
  rw[OY]at hi;have:=hi s hs;rw[hu]at this;cases this
 |some k=>
  have Nw:=hi;rw[M7]at hi;obtain⟨hk,GS,_⟩:=hi;have DJ:a.dv[k]? =az a.dv[k]:=vd hk;have e:=xR DJ;rw[<- e]at GS;have GS:(a.fa k).used=ay:=by simpa using GS
  refine⟨k,by rw[jC,Nw];rfl,by rw[<- h.len];exact hk,by rw[e];exact DJ,GS,λn l hl qj=> ?_⟩;obtain⟨_,⟨_,_,h2⟩,_⟩:=h.mem hl qj;have:=h2.used;rw[GS]at this;cases this
def du.Wf.put {a:du} {Q:List (List Nat)} (h:a.Wf Q) {n:Nat} {l:List Nat} (hl:Q[n]? =az l) (hf:a.free≠0) {id dr:Int} (top:Bool) (hq:1<=dr/\dr<=1000000):
 ∃k:Nat,jC a.dv=k/\k<250/\(a.fa k).used=ay/\(∀(m:Nat) (l:List Nat),Q[m]? =az l->k∉l)/\(a.put n id dr top).Wf (Q.set n (l++[k]))/\
  (∀j,((a.put n id dr top).fa j).pg=if j=k then⟨k,id,dr,top⟩else(a.fa j).pg)/\(a.put n id dr top).free=a.free-1:=by
 obtain⟨k,hk,rn,DJ,GS,Px⟩:=h.toyo.unused hf;have qj:=Px n l hl;have EZ:=(jv.1 hl).1;have hqn:=h.q n l hl;have EY:a.dz.getD n mA=⟨vZ l (-1),kW l (-1),a.oP l,l.length⟩:=zT hqn;have Cm:=h.toyo.sum hl;have Nm:=h.toyo.short hl;have hlen:=h.len;have wm:=yCa (sl:=a.dv);have uj:=h.free;obtain⟨x,hx⟩:∃x:Slot,x=⟨ax,k,id,dr,top,n,kW l (-1),-1⟩:=⟨_,rfl⟩
 have hS:(a.put n id dr top).dv=if kW l (-1)= -1 then a.dv.set k x else(a.dv.set k x).modify (kW l (-1)).toNat λs=>{s with back:=k}:=by
  simp only[du.put,oF,EY,hk,hx]
 have K7:(a.put n id dr top).dz=a.dz.set n ⟨vZ (l++[k]) (-1),k,a.oP l+dr,(l.length:Int)+1⟩:=by
  simp only[du.put,oF,EY,hk];rw[iA (by omega),iA (by omega)];congr 2;by_cases e:l=[]
  ·subst e;rfl
  ·rw[fb (λc=>e ((pV l).1 c)),XU];cases l with
   |nil=>exact absurd rfl e
   |cons y ys=>rfl
 have hF:(a.put n id dr top).free=a.free-1:=by
  simp only[du.put];rw[iA (by omega)]
 have qh:(a.dv.set k x)[k]? =az x:=fW oM;have Pt:kW l (-1)= -1\/∃(y:List Nat) (j:Nat),l=y++[j]/\kW l (-1)=(j:Int):=by
  rcases wY l with e|⟨y,j,e,e2⟩
  ·exact .inl ((pV l).2 e)
  ·exact .inr ⟨y,j,e,e2 _⟩
 have Ih:∀j,j≠k->(kW l (-1)≠(j:Int))->(a.put n id dr top).dv[j]? =a.dv[j]? :=by
  intro j hj GU;rw[hS];split
  ·exact uG (λe=>hj e.symm)
  ·rcases Pt with e|⟨y,i,_,e⟩
   ·contradiction
   ·rw[cL (by omega),uG (λe=>hj e.symm)]
 have Bp:(a.put n id dr top).dv[k]? =az x:=by
  rw[hS];split
  ·exact qh
  ·rcases Pt with e|⟨y,i,e1,e⟩
   ·contradiction
   ·have:i≠k:=by rintro rfl;exact qj (by rw[e1];simp)
    rw[cL (by omega)];exact qh
 have ru:∀j,j≠k->((a.put n id dr top).fa j).pg=(a.fa j).pg/\((a.put n id dr top).fa j).used=(a.fa j).used/\((a.put n id dr top).fa j).dr=(a.fa j).dr:=by
  intro j hj;by_cases c:kW l (-1)=(j:Int)
  ·have e:(a.put n id dr top).dv=(a.dv.set k x).modify j λs=>{s with back:=k}:=by
    rw[hS,fb (by omega),c];rfl
   by_cases El:j<a.dv.length
   ·obtain⟨s,hs⟩:=z6 El;have h1:(a.put n id dr top).dv[j]? =az {s with back:=k}:=by rw[e];exact lS (by rw[uG (λe=>hj e.symm)];exact hs)
    rw[xR h1,xR hs];exact⟨rfl,rfl,rfl⟩
   ·have h1:(a.put n id dr top).dv[j]? =ba:=ue (by rw[e];simpa using El);have h2:a.dv[j]? =ba:=ue oM;rw[du.fa,du.fa,nk,nk,h1,h2];exact⟨rfl,rfl,rfl⟩
  ·have:=Ih j hj c;rw[du.fa,du.fa,nk,nk,this];exact⟨rfl,rfl,rfl⟩
 have Cy:(a.put n id dr top).fa k=x:=xR Bp;have DV:∀j,((a.put n id dr top).fa j).pg=if j=k then⟨k,id,dr,top⟩else(a.fa j).pg:=by
  intro j;split
  ·rename_i e;rw[e,Cy,hx];rfl
  ·rename_i e;exact(ru j e).1
 have gQ:∀{m:Nat} {l':List Nat},(Q.set n (l++[k]))[m]? =az l'->(m=n/\l'=l++[k])\/(m≠n/\Q[m]? =az l'):=by
  intro m l' hm;exact aB hm
 have Lo:yi (a.put n id dr top).dv n (-1) (l++[k]) (-1):=by
  rw[MB];refine⟨?_,⟨x,Bp,?_⟩,trivial⟩
  ·rcases wY l with e|⟨y,j,e,e2⟩
   ·subst e;trivial
   ·have h0:=h.sg n l hl;have qt:=h.nd n l hl;rw[hS,fb (by rw[e2];omega),e2,oF];rw[e]at h0 qt qj ⊢;have hd:=Af.1 qt;refine z1v (k:Int) (λhj=>hd.2.2 j hj j jm rfl) (t:= -1) ?_;exact vO (λi hi=>uG (λe=>qj (e▸hi))) h0
  ·rw[hx];exact⟨rfl,rfl,rfl,rfl,rfl,Z9,hq.2⟩
 refine⟨k,hk,rn,GS,Px,⟨⟨?_,?_,?_,?_,?_,?_,?_⟩,?_⟩,DV,hF⟩
 ·rw[hS];split<;>simp[hlen]
 ·rw[K7];simp[h.ql]
 ·intro m l' hm;rcases gQ hm with⟨rfl,rfl⟩|⟨e,hm⟩
  ·rw[K7,fW (by rw[h.ql];exact EZ),aJ];have:(a.put m id dr top).oP (l++[k])=a.oP l+dr:=by
    rw[du.oP,jr,MW];have e1:l.map (λk=>((a.put m id dr top).fa k).dr)=l.map λk=>(a.fa k).dr:=uv λj hj=>(ru j (λe=>qj (e▸hj))).2.2
    rw[e1];simp only[jx,CG,ra,List.sum_nil,Cy];rw[hx,du.oP];dsimp only;omega
   rw[this];simp[kW]
  ·rw[K7,uG (λc=>e c.symm),h.q m l' hm,mJ];intro j hj;exact(ru j (λe=>Px m l' hm (e▸hj))).2.2.symm
 ·intro m l' hm;rcases gQ hm with⟨rfl,rfl⟩|⟨e,hm⟩
  ·exact Lo
  ·refine vO (λj hj=>Ih j (λe=>Px m l' hm (e▸hj)) λc=> ?_) (h.sg m l' hm);rcases Pt with e2|⟨y,i,e1,e2⟩
   ·omega
   ·have:i=j:=by omega
    exact e (h.toyo.one hm hl hj (by rw[e1];simp[this]))
 ·intro m l' hm;rcases gQ hm with⟨rfl,rfl⟩|⟨e,hm⟩
  ·refine Af.2 ⟨h.nd m l hl,by simp,?_⟩;rintro i hi j hj rfl;rw[vm.1 hj]at hi;exact qj hi
  ·exact h.nd m l' hm
 ·intro j s hj hs;by_cases e:j=k
  ·exact⟨n,l++[k],fW EZ,by rw[e];simp⟩
  ·have hu:(a.fa j).used=ax:=by rw[<- (ru j e).2.1,xR hj];exact hs
   have El:j<a.dv.length:=by
    have:=(jv.1 hj).1;rw[hS]at this;split at this<;>simpa using this
   obtain⟨s',iM⟩:=z6 El;rw[xR iM]at hu;obtain⟨m,l',hm,Py⟩:=h.us j s' iM hu;by_cases em:m=n
   ·subst em;rw[hl]at hm;cases hm;exact⟨m,l++[k],fW EZ,yg _ Py⟩
   ·exact⟨m,l',by rw[uG (λc=>em c.symm)];exact hm,Py⟩
 ·have K3:(a.put n id dr top).dv.map (·.used)=(a.dv.set k x).map (·.used):=by
   rw[hS];split
   ·rfl
   ·exact Ms (g:=λs:Slot=>s.used) (f:=λs:Slot=>{s with back:=k}) (λ_=>rfl) _ _
  have:=zOq (x:=x) DJ;rw[GS,fb (by decide),show x.used=ax by rw[hx],fh rfl]at this;rw[K3,hF,uj];omega
 ·intro m l' hm j hj;rcases gQ hm with⟨rfl,rfl⟩|⟨e,hm⟩
  ·rcases pz.1 hj with hj|hj
   ·rw[(ru j (λe=>qj (e▸hj))).2.2];exact h.pos m l hl j hj
   ·rw[vm.1 hj,Cy,hx];exact hq.1
  ·rw[(ru j (λe=>Px m l' hm (e▸hj))).2.2];exact h.pos m l' hm j hj
def Og (a:du) (k:Nat) (q:Int) (j:Nat) (hk:k<a.dv.length):(a.less k q).fa j=if j=k then{a.fa j with dr:=(a.fa j).dr-q}else a.fa j:=by
 split
 ·rename_i e;subst e;obtain⟨s,hs⟩:=z6 hk;rw[xR hs,xR (a:=a.less j q) (lS hs)]
 ·rename_i e;show(a.dv.modify k _).getD j iH=a.dv.getD j iH;rw[nk,cL (λc=>e c.symm),nk]
def du.yo.less {a:du} {Q:List (List Nat)} (h:a.yo Q) {n k:Nat} {l:List Nat} (hl:Q[n]? =az l) (hk:k∈l) {q:Int} (hq:0<=q/\q<=(a.fa k).dr):(a.less k q).yo Q:=by
 obtain⟨rn,⟨p,t,hs⟩,DJ⟩:=h.mem hl hk;have qj:k<a.dv.length:=by rw[h.len];exact rn
 have hqt:(a.fa k).queue.toNat=n:=by rw[hs.queue];exact oF n
 have hm:∀(j:Nat) (s:Slot),a.dv[j]? =az s->∃s',(a.less k q).dv[j]? =az s'/\s'.used=s.used/\s'.n=s.n/\s'.queue=s.queue/\s'.ahead=s.ahead/\s'.back=s.back:=by
  intro j s hj;by_cases e:k=j
  ·subst e;exact⟨_,lS hj,rfl,rfl,rfl,rfl,rfl⟩
  ·exact⟨s,by rw[show(a.less k q).dv=a.dv.modify k _ from rfl,cL e];exact hj,rfl,rfl,rfl,rfl,rfl⟩
 have ym:(a.less k q).dv.length=250:=by simpa[du.less]using h.len
 have EV:(a.less k q).dz=a.dz.modify n λx=>{x with total:=bo.wrap (x.total-q)}:=by rw[du.less,hqt]
 have K3:(a.less k q).dv.map (·.used)=a.dv.map (·.used):=Ms (g:=λs:Slot=>s.used) (f:=λs:Slot=>{s with dr:=s.dr-q}) (λ_=>rfl) _ _
 refine⟨ym,by rw[EV];simpa using h.ql,λm l' Ak=> ?_,λm l' Ak=> ?_,h.nd,λj s hj hu=> ?_,by rw[K3];exact h.free⟩
 ·by_cases e:n=m
  ·subst e;rw[hl]at Ak;cases Ak;rw[EV,lS (h.q n l hl)];have Cm:=h.sum hl;have e2:(a.less k q).oP l=a.oP l-q:=by
    rw[du.oP,du.oP,yBo (k:=k) (f:=λk=>(a.fa k).dr) (h.nd n l hl) hk]
    ·rw[Og a k q k qj,fh rfl];dsimp only;omega
    ·intro j _ hj;rw[Og a k q j qj,fb hj]
   have h1:=hs.q2;rw[e2];dsimp only;rw[iA (by omega)]
  ·rw[EV,cL e,h.q m l' Ak,mJ];intro j hj;have:j≠k:=λc=>e (h.one hl Ak hk (c▸hj))
   rw[Og a k q j qj,fb this]
 ·refine WU (λj hj s iM=> ?_) (h.sg m l' Ak);obtain⟨s',q0,q1,q2,q3,q4,q5⟩:=hm j s iM;refine⟨s',q0,q1,q2,q3,q4,q5,?_⟩;have e:=xR q0;rw[<- e,Og a k q j qj];obtain⟨_,⟨_,_,h2⟩,h3⟩:=h.mem Ak hj;have:=h2.q1;have:=h2.q2;split
  ·rename_i c;subst c;dsimp only;omega
  ·omega
 ·have gv:=(jv.1 hj).1;rw[ym,<- h.len]at gv;obtain⟨s0,h0⟩:=z6 gv;obtain⟨s',q0,q1,_⟩:=hm j s0 h0;rw[hj]at q0;cases q0;exact h.us j s0 h0 (by rw[<- q1];exact hu)
def du.yo.drop {a:du} {Q:List (List Nat)} (h:a.yo Q) {n k:Nat} {l1 l2:List Nat} (hl:Q[n]? =az (l1++k::l2)) (h0:(a.fa k).dr=0):
 (a.iL k).yo (Q.set n (l1++l2))/\(∀j,j≠k->((a.iL k).fa j).pg=(a.fa j).pg/\((a.iL k).fa j).used=(a.fa j).used/\((a.iL k).fa j).dr=(a.fa j).dr)/\(a.iL k).fa k=iH/\(a.iL k).free=a.free+1:=by
 have hkm:k∈l1++k::l2:=by simp
 have EZ:=(jv.1 hl).1;obtain⟨rn,_,DJ⟩:=h.mem hl hkm;have hlen:=h.len;have qj:k<a.dv.length:=by omega
 have Ji:=h.sg n _ hl;have qt:=h.nd n _ hl;have hd:=Af.1 qt;have zq:=zk.1 hd.2.1;have k1:k∉l1:=λhk=>hd.2.2 k hk k jm rfl
 have k2:k∉l2:=zq.1;rw[MB]at Ji;obtain⟨g1,⟨s,uh,hs⟩,g2⟩:=Ji;have es:=xR uh;have eqn:(a.dz.getD s.queue.toNat mA)=⟨vZ (l1++k::l2) (-1),kW (l1++k::l2) (-1),a.oP (l1++k::l2),(l1++k::l2).length⟩:=by
  rw[hs.queue,oF];exact zT (h.q n _ hl)
 have uj:=h.free;have wm:=yCa (sl:=a.dv);have Nm:=h.short hl;obtain⟨Ah,zb⟩:∃Ah,Ah=if kW l1 (-1)= -1 then a.dv else a.dv.modify (kW l1 (-1)).toNat λx=>{x with back:=vZ l2 (-1)}:=⟨_,rfl⟩
 obtain⟨CM,za⟩:∃CM,CM=if vZ l2 (-1)= -1 then Ah else Ah.modify (vZ l2 (-1)).toNat λx=>{x with ahead:=kW l1 (-1)}:=⟨_,rfl⟩
 have hS:(a.iL k).dv=CM.set k iH:=by
  simp only[du.iL,es,hs.ahead,hs.back];rw[za,zb]
 have K7:(a.iL k).dz=a.dz.set n ⟨vZ (l1++l2) (-1),kW (l1++l2) (-1),a.oP (l1++l2),(l1++l2).length⟩:=by
  simp only[du.iL,es,eqn,hs.ahead,hs.back];rw[hs.queue,oF];have el:(l1++k::l2).length=(l1++l2).length+1:=by simp;omega
  have eq:a.oP (l1++k::l2)=a.oP (l1++l2):=by
   rw[du.oP,du.oP,jr,MW,jr,MW,jx,ra,h0];omega
  rw[el]at Nm ⊢;rw[iA (by omega),eq];congr 2
  ·cases l1 with
   |nil=>simp[kW,XU,vZ]
   |cons y ys=>
    rw[fb (by rw[pV];simp)];rfl
  ·rcases wY l2 with e|⟨x,j,e,e2⟩
   ·subst e;simp[vZ,aJ,kW]
   ·have:l2≠[]:=by rw[e];simp
    rw[fb (λc=>this ((zUc l2).1 c)),aJ,aJ,kW,e2,e2]
  ·simp
 have hF:(a.iL k).free=a.free+1:=by
  simp only[du.iL];rw[iA (by omega)]
 have Cd:kW l1 (-1)= -1\/∃(y:List Nat) (j:Nat),l1=y++[j]/\kW l1 (-1)=(j:Int):=by
  rcases wY l1 with e|⟨y,j,e,e2⟩
  ·exact .inl ((pV l1).2 e)
  ·exact .inr ⟨y,j,e,e2 _⟩
 have BP:vZ l2 (-1)= -1\/∃(y:List Nat) (j:Nat),l2=j::y/\vZ l2 (-1)=(j:Int):=by
  cases l2 with
  |nil=>exact .inl rfl
  |cons j y=>exact .inr ⟨y,j,rfl,rfl⟩
 have Ih:∀j,j∉l1->j∉l2->j≠k->(a.iL k).dv[j]? =a.dv[j]? :=by
  intro j h1 h2 h3;rw[hS,uG (λe=>h3 e.symm),za];have e1:Ah[j]? =a.dv[j]? :=by
   rw[zb];split
   ·rfl
   ·rcases Cd with e|⟨y,i,e,e2⟩
    ·contradiction
    ·rw[cL];rw[e2,oF];rintro rfl;exact h1 (by rw[e];simp)
  split
  ·exact e1
  ·rcases BP with e|⟨y,i,e,e2⟩
   ·contradiction
   ·rw[cL,e1];rw[e2,oF];rintro rfl;exact h2 (by rw[e];simp)
 have ru:∀j,j≠k->((a.iL k).fa j).pg=(a.fa j).pg/\((a.iL k).fa j).used=(a.fa j).used/\((a.iL k).fa j).dr=(a.fa j).dr:=by
  intro j hj;have m1:∀(sl:List Slot) (i:Nat) (b:Int),((sl.modify i λx=>{x with back:=b}).getD j iH).pg=(sl.getD j iH).pg/\((sl.modify i λx=>{x with back:=b}).getD j iH).used=(sl.getD j iH).used/\((sl.modify i λx=>{x with back:=b}).getD j iH).dr=(sl.getD j iH).dr:=by
   intro sl i b;rw[nk,nk,ae];cases sl[j]? with
   |none=>exact⟨rfl,rfl,rfl⟩
   |some s=>by_cases e:i=j<;>simp[e,Slot.pg]
  have m2:∀(sl:List Slot) (i:Nat) (b:Int),((sl.modify i λx=>{x with ahead:=b}).getD j iH).pg=(sl.getD j iH).pg/\((sl.modify i λx=>{x with ahead:=b}).getD j iH).used=(sl.getD j iH).used/\((sl.modify i λx=>{x with ahead:=b}).getD j iH).dr=(sl.getD j iH).dr:=by
   intro sl i b;rw[nk,nk,ae];cases sl[j]? with
   |none=>exact⟨rfl,rfl,rfl⟩
   |some s=>by_cases e:i=j<;>simp[e,Slot.pg]
  have e0:(a.iL k).fa j=CM.getD j iH:=by
   rw[du.fa,hS,nk,uG (λe=>hj e.symm),nk]
  have e1:(Ah.getD j iH).pg=(a.fa j).pg/\(Ah.getD j iH).used=(a.fa j).used/\(Ah.getD j iH).dr=(a.fa j).dr:=by
   rw[zb];split
   ·exact⟨rfl,rfl,rfl⟩
   ·exact m1 _ _ _
  have e2:(CM.getD j iH).pg=(Ah.getD j iH).pg/\(CM.getD j iH).used=(Ah.getD j iH).used/\(CM.getD j iH).dr=(Ah.getD j iH).dr:=by
   rw[za];split
   ·exact⟨rfl,rfl,rfl⟩
   ·exact m2 _ _ _
  rw[e0];exact⟨e2.1.trans e1.1,e2.2.1.trans e1.2.1,e2.2.2.trans e1.2.2⟩
 have hl1:Ah.length=250:=by rw[zb];split<;>simp[hlen]
 have Nv:CM.length=250:=by rw[za];split<;>simp[hl1]
 have Bp:(a.iL k).dv[k]? =az iH:=by rw[hS];exact fW oM
 have Lo:yi (a.iL k).dv n (-1) (l1++l2) (-1):=by
  rw[hS,MB];constructor
  ·--the part ahead
   refine vO (sl:=CM) (λj hj=>uG (λe=>k1 (e▸hj))) ?_;have f1:yi Ah n (-1) l1 (vZ l2 (-1)):=by
    rcases wY l1 with e|⟨y,j,e,e2⟩
    ·subst e;trivial
    ·rw[zb,fb (by rw[e2];omega),e2,oF];subst e;have hd3:=Af.1 hd.1;exact z1v _ (λhj=>hd3.2.2 j hj j jm rfl) g1
   refine vO (λj hj=> ?_) f1;rw[za];split
   ·rfl
   ·rcases BP with e|⟨y,i,e,e2⟩
    ·contradiction
    ·refine cL ?_;rw[e2,oF];rintro rfl;exact hd.2.2 i hj i (kg _ (by rw[e];simp)) rfl
  ·--the part behind
   refine vO (sl:=CM) (λj hj=>uG (λe=>k2 (e▸hj))) ?_;have f1:yi Ah n k l2 (-1):=by
    refine vO (λj hj=> ?_) g2;rw[zb];split
    ·rfl
    ·rcases Cd with e|⟨y,i,e,e2⟩
     ·contradiction
     ·refine cL ?_;rw[e2,oF];rintro rfl;exact hd.2.2 i (by rw[e];simp) i (kg _ hj) rfl
   rcases BP with e|⟨y,j,e,e2⟩
   ·rw[(zUc l2).1 e];trivial
   ·rw[za,fb (by rw[e2];omega),e2,oF];rw[e]at f1 zq ⊢;exact yEj _ (zk.1 zq.2).1 f1
 refine⟨⟨?_,?_,?_,?_,?_,?_,?_⟩,ru,xR Bp,hF⟩
 ·rw[hS,qv];exact Nv
 ·rw[K7];simp[h.ql]
 ·intro m l' hm;rcases aB hm with⟨rfl,rfl⟩|⟨e,hm⟩
  ·rw[K7,fW (by rw[h.ql];exact EZ)];congr 2;refine(mJ λj hj=>(ru j λe=> ?_).2.2).symm;subst e;rcases pz.1 hj with hj|hj
   ·exact k1 hj
   ·exact k2 hj
  ·rw[K7,uG (λc=>e c.symm),h.q m l' hm];congr 2;refine(mJ λj hj=>(ru j λe2=> ?_).2.2).symm;subst e2;exact e (h.one hm hl hj hkm)
 ·intro m l' hm;rcases aB hm with⟨rfl,rfl⟩|⟨e,hm⟩
  ·exact Lo
  ·refine vO (λj hj=>Ih j ?_ ?_ ?_) (h.sg m l' hm)
   ·exactλc=>e (h.one hm hl hj (yg _ c))
   ·exactλc=>e (h.one hm hl hj (zn _ (kg _ c)))
   ·rintro rfl;exact e (h.one hm hl hj hkm)
 ·intro m l' hm;rcases aB hm with⟨rfl,rfl⟩|⟨e,hm⟩
  ·refine Af.2 ⟨hd.1,zq.2,λi hi j hj=>hd.2.2 i hi j (kg _ hj)⟩
  ·exact h.nd m l' hm
 ·intro j s' hj hu;have Pz:j≠k:=by
   rintro rfl;rw[Bp]at hj;cases hj;cases hu
  have hu2:(a.fa j).used=ax:=by rw[<- (ru j Pz).2.1,xR hj];exact hu
  have El:j<a.dv.length:=by
   have:=(jv.1 hj).1;rw[hS,qv]at this;omega
  obtain⟨s0,U'⟩:=z6 El;rw[xR U']at hu2;obtain⟨m,l',hm,Py⟩:=h.us j s0 U' hu2;by_cases em:m=n
  ·subst em;rw[hl]at hm;cases hm;refine⟨m,_,fW EZ,?_⟩;rcases pz.1 Py with hj|hj
   ·exact yg _ hj
   ·rcases mn.1 hj with e|hj
    ·exact absurd e Pz
    ·exact zn _ hj
  ·exact⟨m,l',by rw[uG (λc=>em c.symm)];exact hm,Py⟩
 ·have K3:(a.iL k).dv.map (·.used)=(a.dv.set k iH).map (·.used):=by
   have e1:CM.map (·.used)=a.dv.map (·.used):=by
    have f2:CM.map (·.used)=Ah.map (·.used):=by
     rw[za];split
     ·rfl
     ·exact Ms (g:=λs:Slot=>s.used) (f:=λs:Slot=>{s with ahead:=kW l1 (-1)}) (λ_=>rfl) _ _
    have f1:Ah.map (·.used)=a.dv.map (·.used):=by
     rw[zb];split
     ·rfl
     ·exact Ms (g:=λs:Slot=>s.used) (f:=λs:Slot=>{s with back:=vZ l2 (-1)}) (λ_=>rfl) _ _
    rw[f2,f1]
   rw[hS,List.map_set,e1,List.map_set]
  have:=zOq (x:=iH) uh;rw[hs.used,fh rfl,show iH.used=ay from rfl,fb (by decide)]at this;rw[K3,hF,uj];omega
def du.Wf.take {a:du} {Q:List (List Nat)} (h:a.Wf Q) {n k:Nat} {l:List Nat} (hl:Q[n]? =az l) (hk:k∈l) {q:Int} (hq:1<=q/\q<=(a.fa k).dr):
 (a.gl k q).2=0/\(∀j,j≠k->((a.gl k q).1.fa j).pg=(a.fa j).pg/\((a.gl k q).1.fa j).used=(a.fa j).used)/\
   (if(a.fa k).dr=q then(a.gl k q).1.Wf (Q.set n (l.erase k))/\(a.gl k q).1.fa k=iH/\(a.gl k q).1.free=a.free+1
    else(a.gl k q).1.Wf Q/\(a.gl k q).1.fa k={a.fa k with dr:=(a.fa k).dr-q}/\(a.gl k q).1.free=a.free):=by
 obtain⟨rn,⟨p,t,hs⟩,DJ⟩:=h.toyo.mem hl hk;have qj:k<a.dv.length:=by rw[h.len];exact rn
 have hu:a.iz k=ax:=by
  simp only[du.iz,lr,ud];refine⟨oM,oM,?_⟩;rw[oF];exact hs.used
 have J2:=h.toyo.less hl hk (q:=q) oM;have tr:=Og a k q;rw[du.gl,fb (by rw[hu];decide),oF,fb (by omega)];by_cases e:(a.fa k).dr=q
 ·rw[fh e,fh e];obtain⟨l1,l2,rfl⟩:=List.append_of_mem hk;have qt:=h.nd n _ hl;have hd:=Af.1 qt;have k1:k∉l1:=λhk=>hd.2.2 k hk k jm rfl
  obtain⟨d1,d2,d3,d4⟩:=J2.drop hl (by rw[tr k qj,fh rfl];dsimp only;omega);have ee:(l1++k::l2).erase k=l1++l2:=by rw[List.erase_append_right _ k1,List.erase_cons_head]
  refine⟨rfl,λj hj=> ?_,?_,d3,d4⟩
  ·have:=d2 j hj;rw[tr j qj,fb hj]at this;exact⟨this.1,this.2.1⟩
  ·rw[ee];refine⟨d1,λm l' hm j hj=> ?_⟩;have GU:j≠k/\∃U2,Q[m]? =az U2/\j∈U2:=by
    have zq:=zk.1 hd.2.1;rcases aB hm with⟨rfl,rfl⟩|⟨e3,hm⟩
    ·refine⟨?_,_,hl,?_⟩
     ·rintro rfl;rcases pz.1 hj with hj|hj
      ·exact k1 hj
      ·exact zq.1 hj
     ·rcases pz.1 hj with hj|hj
      ·exact yg _ hj
      ·exact zn _ (kg _ hj)
    ·refine⟨?_,_,hm,hj⟩;rintro rfl;exact e3 (h.toyo.one hm hl hj hk)
   obtain⟨hj3,U2,hm2,hj4⟩:=GU;have:=(d2 j hj3).2.2;rw[tr j qj,fb hj3]at this;dsimp only;rw[this];exact h.pos m U2 hm2 j hj4
 ·rw[fb e,fb e];refine⟨rfl,λj hj=> ?_,⟨J2,λm l' hm j hj=> ?_⟩,?_,rfl⟩
  ·dsimp only;rw[tr j qj,fb hj];exact⟨rfl,rfl⟩
  ·dsimp only;rw[tr j qj];split
   ·rename_i c;subst c;dsimp only;omega
   ·exact h.pos m l' hm j hj
  ·dsimp only;rw[tr k qj,fh rfl]
def xE {α β:Type} {f g:α->List β}:∀{l:List α},(∀x∈l,f x=g x)->l.flatMap f=l.flatMap g
 |[],_=>rfl
 |x::l,h=>by rw[wg,wg,h x jm,xE λy hy=>h y (kg _ hy)]
def lO {α β γ:Type} {f:α->List β} {g:β->γ}:∀(l:List α),(l.flatMap f).map g=l.flatMap λx=>(f x).map g
 |[]=>rfl
 |x::l=>by rw[wg,wg,jr,lO l]
def ZG {α β:Type} {f:α->List β}:∀{l:List α},(∀x∈l,f x≠[])->l.length<=(l.flatMap f).length
 |[],_=>lk 0
 |x::l,h=>by
  have:=ZG (l:=l) λy hy=>h y (kg _ hy)
  have:=List.length_pos_iff.2 (h x jm);rw[wg,iv,iJ];omega
def Ya {α:Type} [DecidableEq α]:∀{l m:List α},l.Nodup->(∀x∈l,x∈m)->l.length<=m.length
 |[],_,_,_=>mz _
 |x::l,m,h,hs=>by
  have hd:=zk.1 h;have hx:=hs x jm;have:=Ya (l:=l) (m:=m.erase x) hd.2 λy hy=>by
   have ji:y≠x:=by rintro rfl;exact hd.1 hy
   exact(List.mem_erase_of_ne ji).2 (hs y (kg _ hy))
  rw[aj hx]at this;have:=List.length_pos_of_mem hx;rw[iJ];omega
def yDx {l:List Int} (h:l.Nodup) (hr:∀x∈l,0<=x/\x<l.length) {n:Nat} (hn:n<l.length):(n:Int)∈l:=by
 apply Classical.byContradiction;intro hx;have qt:((n:Int)::l).Nodup:=zk.2 ⟨hx,h⟩;have:=Ya (m:=(ao l.length).map λk:Nat=>(k:Int)) qt λy hy=>by
  rw[pj];rcases mn.1 hy with rfl|hy
  ·exact⟨n,B5.2 hn,rfl⟩
  ·have:=hr y hy;exact⟨y.toNat,B5.2 oM,oM⟩
 simp at this;omega
def SG {α β:Type} {l:List (α×β)} (h:(l.map (·.1)).Nodup) {k:α} {x y:β} (hx:(k,x)∈l) (hy:(k,y)∈l):x=y:=by
 induction l with
 |nil=>cases hx
 |cons p l ih=>
  rw[jx,zk]at h;rcases mn.1 hx with ex|hx<;>rcases mn.1 hy with ey|hy
  ·rw[<- ex]at ey;exact(Prod.mk.inj ey).2.symm
  ·exact absurd (tc (f:=(·.1)) hy) (by rw[<- ex]at h;exact h.1)
  ·exact absurd (tc (f:=(·.1)) hx) (by rw[<- ey]at h;exact h.1)
  ·exact ih h.2 hx hy
def Oo:∀{l:List (Int×Place)} {k:Int} {x:Place},kr l k=az x->(k,x)∈l
 |[],k,x,h=>by cases h
 |p::l,k,x,h=>by
  rw[kr,MX]at h;by_cases e:p.1=k
  ·rw[lg e]at h;simp only[we,Option.some.injEq]at h;subst h;subst e;exact jm
  ·rw[ku e]at h;exact kg _ (Oo h)
def Yd {l:List (Int×Place)} {k:Int} (h:kr l k=ba):k∉l.map (·.1):=by
 intro hk;obtain⟨⟨k',x⟩,hx,rfl⟩:=pj.1 hk;rw[kr,Option.map_eq_none_iff,List.find?_eq_none]at h;have:=h _ hx;simp at this
def z2z:∀{l:List (Int×Place)} {k:Int} {x:Place},k∉l.map (·.1)->eN k x l=l++[(k,x)]
 |[],k,x,_=>rfl
 |p::l,k,x,h=>by
  rw[jx,mn,not_or]at h;rw[eN,fb h.1,z2z h.2];rfl
def xD (Q:List (List Nat)) (r:xM):List Nat:=Q.getD r.queue.toNat []
def yNm (s p:Int) (e:DN):zI:=⟨e.id,s,p,e.dr,e.top⟩
def vJ (a:du) (s p:Int) (k:Nat):zI:=yNm s p (a.fa k).pg
def dp.ia (b:dp) (Q:List (List Nat)) (s:Int) (r:xM):List zI:=(xD Q r).map (vJ b.a s r.dk)
def dp.iu (b:dp) (Q:List (List Nat)) (s:Int):List zI:=(b.eg s).flatMap (b.ia Q s)
def dp.flat (b:dp) (Q:List (List Nat)):List zI:=b.iu Q 1++b.iu Q 2
def vY (a:du) (s p:Int) (k:Nat):Int×Place:=((a.fa k).id,⟨s,p,k⟩)
def dp.ml (b:dp) (Q:List (List Nat)) (s:Int):List (Int×Place):=(b.eg s).flatMap λr=>(xD Q r).map (vY b.a s r.dk)
def dp.qs (b:dp):List Int:=b.fc.map (·.queue)++b.dw.map (·.queue)++b.spare
structure dp.Core (b:dp) (Q:List (List Nat)) (hole:Int):Prop where
 wf:b.a.Wf Q
 xa:∀s,s=1\/s=2->(b.eg s).Pairwise λr r'=>ki s r.dk r'.dk=ax
 uf:∀q∈b.qs,0<=q/\q<Q.length
 nd:b.qs.Nodup
 ql:b.qs.length=Q.length
 ne:∀s,s=1\/s=2->∀r∈b.eg s,r.queue≠hole->xD Q r≠[]
 sp:∀q∈b.spare,Q.getD q.toNat []=[]
 at_:b.at_.Perm (b.ml Q 1++b.ml Q 2)
 ids:((b.flat Q).map (·.id)).Nodup
 qb:Q.length<=250
structure dp.Bk (b:dp) (L:List zI):Prop where
 fl:∀o∈L,o.top=(b.mq o.side && decide (o.id=b.iZ o.side))
 th:∀s,s=1\/s=2->b.mq s=ax->∃o∈L,o.side=s/\o.id=b.iZ s
structure dp.fq (b:dp) (L:List zI):Prop where
 ex:∃Q,b.Core Q (-1)/\b.Bk L/\L=b.flat Q
def a8 (b:dp) (Q:List (List Nat)) (s:Int):(b.ml Q s).map (·.1)=(b.iu Q s).map (·.id):=by
 rw[dp.ml,dp.iu,lO,lO];refine xE λr _=> ?_
 rw[dp.ia,wb,wb];rfl
def dp.Core.zx {b:dp} {Q:List (List Nat)} {h:Int} (c:b.Core Q h):(b.at_.map (·.1)).Perm ((b.flat Q).map (·.id)):=by
 have:=c.at_.map (·.1)
 rw[jr,a8,a8,<- jr]at this;exact this
def dp.Core.keys {b:dp} {Q:List (List Nat)} {h:Int} (c:b.Core Q h):(b.at_.map (·.1)).Nodup:=c.zx.nodup_iff.2 c.ids
def dp.Core.len {b:dp} {Q:List (List Nat)} {h:Int} (c:b.Core Q h):b.at_.length=(b.flat Q).length:=by
 have:=c.zx.length_eq;simpa using this
def dp.Core.ER {b:dp} {Q:List (List Nat)} {h:Int} (c:b.Core Q h) {s:Int} (hs:s=1\/s=2) {r:xM} (hr:r∈b.eg s) {k:Nat} (hk:k∈xD Q r):((b.a.fa k).id,(⟨s,r.dk,k⟩:Place))∈b.at_:=by
 refine c.at_.mem_iff.2 ?_;have hp:vY b.a s r.dk k∈b.ml Q s:=AL.2 ⟨r,hr,tc hk⟩;rcases hs with rfl|rfl
 ·exact yg _ hp
 ·exact zn _ hp
def dp.Core.Qi {b:dp} {Q:List (List Nat)} {h:Int} (c:b.Core Q h) {id:Int} {x:Place} (hx:(id,x)∈b.at_):∃(k:Nat) (r:xM),(x.side=1\/x.side=2)/\r∈b.eg x.side/\k∈xD Q r/\x=⟨x.side,r.dk,k⟩/\(b.a.fa k).id=id:=by
 have:=c.at_.mem_iff.1 hx;rcases pz.1 this with hp|hp
 all_goals
  obtain⟨r,hr,hp⟩:=AL.1 hp;obtain⟨k,hk,e⟩:=pj.1 hp;simp only[vY,Prod.mk.injEq]at e;obtain⟨e1,rfl⟩:=e;exact⟨k,r,by simp,hr,hk,rfl,e1⟩
def z2u {Q:List (List Nat)} {r:xM} (h:0<=r.queue/\r.queue<Q.length):Q[r.queue.toNat]? =az (xD Q r):=by
 obtain⟨l,hl⟩:=z6 (l:=Q) (i:=r.queue.toNat) oM;rw[xD,zT hl,hl]
def gD {b:dp} {s:Int} (hs:s=1\/s=2) {r:xM} (hr:r∈b.eg s):r.queue∈b.qs:=by
 rcases hs with rfl|rfl
 ·exact yg _ (yg _ (tc (f:=(·.queue)) hr))
 ·exact yg _ (zn _ (tc (f:=(·.queue)) hr))
def dp.Core.get {b:dp} {Q:List (List Nat)} {h:Int} (c:b.Core Q h) {s:Int} (hs:s=1\/s=2) {r:xM} (hr:r∈b.eg s):Q[r.queue.toNat]? =az (xD Q r):=z2u (c.uf _ (gD hs hr))
def CX (L:List zI) (s:Int):List zI:=L.map λo=>if o.side=s then{o with top:=ay}else o
def MA (s x:Int):ki s x x=ay:=by
 rw[ki];split<;>exact ku oM
def dp.Core.flag {b:dp} {Q:List (List Nat)} {h:Int} (c:b.Core Q h) {a':du} (hw:a'.Wf Q) (hi:∀k,(a'.fa k).id=(b.a.fa k).id):({b with a:=a'}:dp).Core Q h:=by
 have e1:∀s,({b with a:=a'}:dp).ml Q s=b.ml Q s:=by
  intro s;refine xE λr _=>uv λk _=> ?_
  simp only[vY,hi]
 have e2:((({b with a:=a'}:dp).flat Q).map (·.id))=(b.flat Q).map (·.id):=by
  rw[dp.flat,dp.flat,jr,jr,<- a8,<- a8,<- a8,<- a8,e1,e1]
 exact⟨hw,c.xa,c.uf,c.nd,c.ql,c.ne,c.sp,by rw[e1,e1];exact c.at_,by rw[e2];exact c.ids,c.qb⟩
def ySd (a:du) (n:Int) (t:Bool) (k:Nat):((a.mi n t).fa k).id=(a.fa k).id:=by
 rw[VO];split<;>rfl
def dp.Core.iU {b:dp} {Q:List (List Nat)} {h:Int} (c:b.Core Q h) (s:Int):(b.iU s).Wf Q/\∀k,((b.iU s).fa k).id=(b.a.fa k).id:=by
 rw[dp.iU]
 repeat' split
 all_goals first|exact⟨c.wf,λ_=>rfl⟩|exact⟨c.wf.top _ _,λk=>ySd _ _ _ k⟩
def dp.Core.CA {b:dp} {Q:List (List Nat)} {h:Int} (c:b.Core Q h) (ht:b.Bk (b.flat Q)) {s:Int} (hs:s=1\/s=2):({b with a:=b.iU s}:dp).flat Q=CX (b.flat Q) s:=by
 have Al:∀{s':Int} (iM:s'=1\/s'=2) {r:xM} (hr:r∈b.eg s') {k:Nat} (hk:k∈xD Q r),(b.a.fa k).top=(b.mq s' && decide ((b.a.fa k).id=b.iZ s')):=by
  intro s' iM r hr k hk;have hm:vJ b.a s' r.dk k∈b.flat Q:=by
   have:vJ b.a s' r.dk k∈b.iu Q s':=AL.2 ⟨r,hr,tc hk⟩;rcases iM with rfl|rfl
   ·exact yg _ this
   ·exact zn _ this
  exact ht.fl _ hm
 have key:∀{s':Int} (iM:s'=1\/s'=2) {r:xM} (hr:r∈b.eg s') {k:Nat} (hk:k∈xD Q r),((b.iU s).fa k).pg=if s'=s then{(b.a.fa k).pg with top:=ay}else(b.a.fa k).pg:=by
  intro s' iM r hr k hk;have zd:=c.ER iM hr hk;have Ic:=Al iM hr hk;have GQ:(b.a.fa k).top=ay->(b.a.fa k).pg=if s'=s then{(b.a.fa k).pg with top:=ay}else(b.a.fa k).pg:=by
   intro e;split
   ·rw[Slot.pg,e]
   ·rfl
  rw[dp.iU];by_cases hh:b.mq s=ax
  ·rw[fh hh];cases hg:kr b.at_ (b.iZ s)with
   |none=>
    dsimp only;by_cases e:s'=s
    ·subst e;refine GQ ?_;rw[Ic,hh,Ae];refine ku λe2=> ?_
     rw[<- e2]at hg;exact Yd hg (tc (f:=(·.1)) zd)
    ·rw[fb e]
   |some o=>
    dsimp only;obtain⟨k',r',zp,xf,rn,ho,AR⟩:=c.Qi (Oo hg);by_cases es:o.side=s
    ·rw[fh es,VO];have Ca:o.slot=(k':Int):=by rw[ho]
     by_cases ek:k=k'
     ·subst ek;have hu:b.a.iz o.slot=ax:=by
       obtain⟨_,⟨_,_,h2⟩,h3⟩:=c.wf.toyo.mem (c.get iM hr) hk;have gv:=(jv.1 h3).1;simp only[du.iz,lr,ud,Ca,oF];exact⟨oM,oM,h2.used⟩
      rw[fh ⟨hu,by rw[Ca];rfl⟩];have:=c.ER zp xf rn;have e3:=SG c.keys zd this;have e4:s'=s:=by
       have:=congrArg Place.side e3;dsimp only at this;rw[this,es]
      rw[fh e4];rfl
     ·rw[fb (λe=>ek (by have:=e.2;rw[Ca]at this;simpa using this))];by_cases e:s'=s
      ·subst e;refine GQ ?_;rw[Ic,hh,Ae];refine ku λe2=>ek ?_
       have Jl:=c.ER zp xf rn;rw[AR,<- e2]at Jl;have e3:=SG c.keys zd Jl;have:=congrArg Place.slot e3;dsimp only at this;omega
      ·rw[fb e]
    ·rw[fb es];by_cases e:s'=s
     ·subst e;refine GQ ?_;rw[Ic,hh,Ae];refine ku λe2=>es ?_
      have Jl:=Oo hg;rw[<- e2]at Jl;have e3:=SG c.keys zd Jl;rw[<- e3]
     ·rw[fb e]
  ·rw[fb hh];by_cases e:s'=s
   ·subst e;refine GQ ?_;have:b.mq s'=ay:=by simpa using hh
    rw[Ic,this,CI]
   ·rw[fb e]
 have side:∀s',s'=1\/s'=2->({b with a:=b.iU s}:dp).iu Q s'=CX (b.iu Q s') s:=by
  intro s' iM;rw[CX,dp.iu,dp.iu,lO];refine xE λr hr=> ?_
  rw[dp.ia,dp.ia,wb];refine uv λk hk=> ?_
  simp only[vJ,cn,key iM hr hk,yNm];by_cases e:s'=s
  ·rw[fh e];exact(fh e).symm
  ·rw[fb e];exact(fb e).symm
 rw[dp.flat,side 1 (.inl rfl),side 2 (.inr rfl),dp.flat,CX,CX,CX,jr]
def before (s p:Int) (o:zI):Bool:=decide (o.side<s)||(decide (o.side=s) && !ki s p o.dk)
def gU (L:List zI) (s p:Int):Bool:=L.all λo=> !decide (o.side=s)||ki s p o.dk
def Ha (L:List zI) (s id p q:Int):List zI:=
 let L1:=if gU L s p=ax then CX L s else L
 L1.takeWhile (before s p)++⟨id,s,p,q,gU L s p⟩::L1.dropWhile (before s p)
def yMo {α:Type} {f:α->Bool}:∀{A B:List α},(∀x∈A,f x=ax)->(∀x∈B,f x=ay)->(A++B).takeWhile f=A/\(A++B).dropWhile f=B
 |[],[],_,_=>⟨rfl,rfl⟩
 |[],b::B,_,h=>by
  have:=h b jm;simp[this]
 |a::A,B,h,h2=>by
  obtain⟨i1,i2⟩:=yMo (A:=A) (B:=B) (λx hx=>h x (kg _ hx)) h2;have:=h a jm;rw[uc,List.takeWhile_cons,List.dropWhile_cons,this];simp[i1,i2]
def qL {b:dp} {Q:List (List Nat)} {s:Int} {r:xM} {o:zI} (h:o∈b.ia Q s r):o.side=s/\o.dk=r.dk:=by
 obtain⟨k,_,rfl⟩:=pj.1 h;exact⟨rfl,rfl⟩
def nG {b:dp} {Q:List (List Nat)} {s:Int} {o:zI} (h:o∈b.iu Q s):o.side=s/\∃r∈b.eg s,o∈b.ia Q s r/\o.dk=r.dk:=by
 obtain⟨r,hr,ho⟩:=AL.1 h;exact⟨(qL ho).1,r,hr,ho,(qL ho).2⟩
structure Spl (s p:Int) (R1 R2:List xM):Prop where
 a:∀r∈R1,ki s r.dk p=ax
 b:∀r∈R2,ki s p r.dk=ax
def z1j {s x y:Int} (h:ki s x y=ax):ki s y x=ay:=by
 rw[ki]at h ⊢;split at h
 ·rename_i e;rw[fh e];have:=oV h;exact ku oM
 ·rename_i e;rw[fb e];have:=oV h;exact ku oM
def zUx {s x y z:Int} (h:ki s x y=ax) (h2:ki s y z=ax):ki s x z=ax:=by
 rw[ki]at h h2 ⊢;split at h
 ·rename_i e;rw[fh e]at h2 ⊢;have:=oV h;have:=oV h2;exact lg oM
 ·rename_i e;rw[fb e]at h2 ⊢;have:=oV h;have:=oV h2;exact lg oM
def yDu {s x y:Int} (h:ki s x y=ay) (ji:x≠y):ki s y x=ax:=by
 rw[ki]at h ⊢;split at h
 ·rename_i e;rw[fh e];have:=KS h;exact lg oM
 ·rename_i e;rw[fb e];have:=KS h;exact lg oM
def Y6 {s p:Int} {l:List xM} (hs:l.Pairwise λr r'=>ki s r.dk r'.dk=ax):
 (∀r∈l.take (zZ s l p),ki s r.dk p=ax)/\
 (if kT s l p=ax then ∃r,l[zZ s l p]? =az r/\r.dk=p/\∀r'∈l.drop (zZ s l p+1),ki s p r'.dk=ax
  else ∀r'∈l.drop (zZ s l p),ki s p r'.dk=ax):=by
 have e1:l.take (zZ s l p)=l.takeWhile λr=>ki s r.dk p:=by
  rw[zZ];have h:=KM (l₁:=l.takeWhile λr=>ki s r.dk p) (l₂:=l.dropWhile λr=>ki s r.dk p);rwa [xFm]at h
 have e2:l.drop (zZ s l p)=l.dropWhile λr=>ki s r.dk p:=by
  have h:=BK (zZ s l p) l;have h2:=xFm (p:=λr:xM=>ki s r.dk p) (l:=l);rw[e1]at h;exact List.append_cancel_left (h.trans h2.symm)
 refine⟨λr hr=> ?_,?_⟩
 ·rw[e1]at hr;exact DB.1 List.all_takeWhile r hr
 have hd:∀r,l[zZ s l p]? =az r->ki s r.dk p=ay:=by
  intro r hr;have h0:(l.drop (zZ s l p))[0]? =az r:=by rw[AZ];exact hr
  rw[e2]at h0;cases hdw:l.dropWhile λr=>ki s r.dk p with
  |nil=>rw[hdw]at h0;cases h0
  |cons x y=>
   rw[hdw]at h0;cases h0;have:=List.head?_dropWhile_not (λr:xM=>ki s r.dk p) l;rw[hdw]at this;simpa using this
 have hpw:∀r r',l[zZ s l p]? =az r->r'∈l.drop (zZ s l p+1)->ki s r.dk r'.dk=ax:=by
  intro r r' hr ot;have gv:=(jv.1 hr).1;have:=List.Pairwise.sublist (List.drop_sublist (zZ s l p) l) hs;rw[DC gv,Hx,(jv.1 hr).2]at this;exact this.1 r' ot
 split
 ·rename_i hb;rw[kT]at hb;cases hr:l[zZ s l p]? with
  |none=>rw[hr]at hb;cases hb
  |some r=>
   rw[hr]at hb;have hp:r.dk=p:=oV hb;exact⟨r,rfl,hp,λr' ot=>by rw[<- hp];exact hpw r r' hr ot⟩
 ·rename_i hb;intro r' ot;by_cases gv:zZ s l p<l.length
  ·obtain⟨r,hr⟩:=z6 gv;rw[kT,hr]at hb;have hp:¬r.dk=p:=λe=>hb (lg e)
   have h1:=yDu (hd r hr) hp;rw[DC gv,(jv.1 hr).2]at ot;rcases mn.1 ot with rfl|ot
   ·exact h1
   ·exact zUx h1 (hpw r r' hr ot)
  ·rw[Hz (by omega)]at ot;cases ot
def dp.qx (b:dp) (s:Int) (l:List xM):dp:=if s=1 then{b with fc:=l}else{b with dw:=l}
def z9q {b:dp} {s:Int} (hs:s=1\/s=2):∃rest,b.qs.Perm ((b.eg s).map (·.queue)++rest)/\∀l,(b.qx s l).qs.Perm (l.map (·.queue)++rest):=by
 rcases hs with rfl|rfl
 ·refine⟨b.dw.map (·.queue)++b.spare,?_,λl=> ?_⟩
  ·rw[dp.qs,jh];exact .refl _
  ·show(l.map (·.queue)++b.dw.map (·.queue)++b.spare).Perm _
   rw[jh]
 ·refine⟨b.fc.map (·.queue)++b.spare,?_,λl=> ?_⟩
  ·rw[dp.qs];show(b.fc.map (·.queue)++b.dw.map (·.queue)++b.spare).Perm (b.dw.map (·.queue)++(b.fc.map (·.queue)++b.spare))
   rw[<- jh];exact A0.append_right _
  ·show(b.fc.map (·.queue)++l.map (·.queue)++b.spare).Perm (l.map (·.queue)++(b.fc.map (·.queue)++b.spare))
   rw[<- jh];exact A0.append_right _
structure AF (b:dp) (Q:List (List Nat)) (s p:Int) (b':dp) (n:Int) (Q':List (List Nat)) (R1 R2:List xM):Prop where
 core:b'.Core Q' n
 eg:b'.eg s=R1++⟨p,n⟩::R2
 kj:Spl s p R1 R2
 flat:b'.flat Q'=b.flat Q
 at_:b'.at_=b.at_
 free:b'.a.free=b.a.free
 fg:∀L,b.Bk L->b'.Bk L
 dr:∀x,b'.mq x=b.mq x/\b'.iZ x=b.iZ x
def yNy {α:Type} {l:List α} {x d:α} {n:Nat}:(l++[x]).getD n d=if n=l.length then x else l.getD n d:=by
 rw[nk,nk,List.getElem?_append];split
 ·rw[fb (by omega)]
 ·rename_i h;by_cases e:n=l.length
  ·rw[fh e,e,I0];rfl
  ·rw[fb e,ue (show([x]:List α).length<=n-l.length by simp;omega),ue (by omega)]
def dp.Core.add {b:dp} {Q:List (List Nat)} (c:b.Core Q (-1)) {s p n:Int} (hs:s=1\/s=2) {R1 R2:List xM} (hr:b.eg s=R1++R2) (kj:Spl s p R1 R2) {b':dp} {Q':List (List Nat)}
 (Va:b'.eg s=R1++⟨p,n⟩::R2) (DG:∀s',s'≠s->s'=1\/s'=2->b'.eg s'=b.eg s') (tr:b'.at_=b.at_) (hw:b'.a.Wf Q') (ym:b'.a.dv=b.a.dv)
 (hQ:∀k,Q'.getD k []=Q.getD k []) (hn:Q.getD n.toNat []=[]) (aaF:∀q∈b'.qs,0<=q/\q<Q'.length) (qt:b'.qs.Nodup) (HI:b'.qs.length=Q'.length) (tq:∀q∈b'.spare,Q.getD q.toNat []=[]) (Pn:Q'.length<=250):
 b'.Core Q' n/\b'.flat Q'=b.flat Q:=by
 have Ln:∀r,xD Q' r=xD Q r:=λr=>hQ _
 have hsa:∀k,b'.a.fa k=b.a.fa k:=λk=>by rw[du.fa,du.fa,ym]
 have Vi:xD Q ⟨p,n⟩=[]:=hn;have Ig:∀s' r,b'.ia Q' s' r=b.ia Q s' r:=by
  intro s' r;rw[dp.ia,dp.ia,Ln];exact uv λk _=>by rw[vJ,vJ,hsa]
 have Vc:∀s' (r:xM),(xD Q' r).map (vY b'.a s' r.dk)=(xD Q r).map (vY b.a s' r.dk):=by
  intro s' r;rw[Ln];exact uv λk _=>by rw[vY,vY,hsa]
 have oW:∀s',s'=1\/s'=2->b'.iu Q' s'=b.iu Q s':=by
  intro s' iM;rw[dp.iu,dp.iu];by_cases e:s'=s
  ·subst e;rw[Va,hr,yq,yq,wg,xE (λr _=>Ig s' r),xE (l:=R2) (λr _=>Ig s' r),Ig,dp.ia,Vi,CG,xj]
  ·rw[DG s' e iM];exact xE λr _=>Ig s' r
 have zd:∀s',s'=1\/s'=2->b'.ml Q' s'=b.ml Q s':=by
  intro s' iM;rw[dp.ml,dp.ml];by_cases e:s'=s
  ·subst e;rw[Va,hr,yq,yq,wg,xE (λr _=>Vc s' r),xE (l:=R2) (λr _=>Vc s' r),Vc,Vi,CG,xj]
  ·rw[DG s' e iM];exact xE λr _=>Vc s' r
 have ry:b'.flat Q'=b.flat Q:=by rw[dp.flat,dp.flat,oW 1 (.inl rfl),oW 2 (.inr rfl)]
 refine⟨⟨hw,λs' iM=> ?_,aaF,qt,HI,λs' iM r ot ji=> ?_,λq hq=>by rw[hQ];exact tq q hq,by rw[tr,zd 1 (.inl rfl),zd 2 (.inr rfl)];exact c.at_,by rw[ry];exact c.ids,Pn⟩,ry⟩
 ·by_cases e:s'=s
  ·subst e;have h0:=c.xa s' iM;rw[hr,af]at h0;rw[Va,af,Hx];refine⟨h0.1,⟨kj.b,h0.2.1⟩,λx hx y hy=> ?_⟩;rcases mn.1 hy with rfl|hy
   ·exact kj.a x hx
   ·exact h0.2.2 x hx y hy
  ·rw[DG s' e iM];exact c.xa s' iM
 ·rw[Ln];have hold:∀r∈b.eg s',xD Q r≠[]:=λr hr=>c.ne s' iM r hr λe=>by
   have:=c.uf _ (gD iM hr);omega
  by_cases e:s'=s
  ·subst e;rw[Va]at ot;rcases pz.1 ot with h|h
   ·exact hold r (by rw[hr];exact yg _ h)
   ·rcases mn.1 h with rfl|h
    ·exact absurd rfl ji
    ·exact hold r (by rw[hr];exact zn _ h)
  ·rw[DG s' e iM]at ot;exact hold r ot
def zOb (b:dp) {s:Int} (hs:s=1\/s=2) (l:List xM):(b.qx s l).eg s=l/\∀s',s'≠s->s'=1\/s'=2->(b.qx s l).eg s'=b.eg s':=by
 rcases hs with rfl|rfl
 ·exact⟨rfl,λs' h h2=>by rcases h2 with rfl|rfl;exact absurd rfl h;rfl⟩
 ·exact⟨rfl,λs' h h2=>by rcases h2 with rfl|rfl;rfl;exact absurd rfl h⟩
def yFv (b:dp) {s p:Int} (hs:s=1\/s=2):b.ga s p=if kT s (b.eg s) p=ax then(b,((b.eg s).getD (zZ s (b.eg s) p) ⟨0,0⟩).queue)else(({b with a:=b.iQ.2.2,spare:=b.iQ.2.1}:dp).qx s (b.ins s p),b.iQ.1):=by
 rcases hs with rfl|rfl<;>rfl
def dp.Core.queue {b:dp} {Q:List (List Nat)} (c:b.Core Q (-1)) (hl:(b.flat Q).length<250) {s:Int} (hs:s=1\/s=2) (p:Int):∃Q' R1 R2,AF b Q s p (b.ga s p).1 (b.ga s p).2 Q' R1 R2:=by
 have tq:=Y6 (p:=p) (c.xa s hs);rw[yFv b hs];by_cases hb:kT s (b.eg s) p=ax
 ·rw[fh hb]at tq ⊢;obtain⟨h1,r,hr,hp,h2⟩:=tq;have gv:=(jv.1 hr).1;have er:(⟨p,r.queue⟩:xM)=r:=by rw[<- hp]
  have oX:b.eg s=(b.eg s).take (zZ s (b.eg s) p)++r::(b.eg s).drop (zZ s (b.eg s) p+1):=by
   conv=>lhs;rw[<- BK (zZ s (b.eg s) p) (b.eg s)]
   rw[DC gv,(jv.1 hr).2]
  refine⟨Q,_,_,⟨⟨c.wf,c.xa,c.uf,c.nd,c.ql,λs' iM r' ot _=>c.ne s' iM r' ot λe=> ?_,c.sp,c.at_,c.ids,c.qb⟩,?_,⟨h1,h2⟩,rfl,rfl,rfl,λ_ h=>h,λ_=>⟨rfl,rfl⟩⟩⟩
  ·have:=c.uf _ (gD iM ot);omega
  ·dsimp only;rw[zT hr,er];exact oX
 ·rw[fb hb]at tq ⊢;obtain⟨h1,h2⟩:=tq;have hr:b.eg s=(b.eg s).take (zZ s (b.eg s) p)++(b.eg s).drop (zZ s (b.eg s) p):=(BK _ _).symm;obtain⟨g1,g2⟩:=zOb ({b with a:=b.iQ.2.2,spare:=b.iQ.2.1}:dp) hs (b.ins s p);have fg:∀x,((({b with a:=b.iQ.2.2,spare:=b.iQ.2.1}:dp).qx s (b.ins s p)).mq x=b.mq x/\(({b with a:=b.iQ.2.2,spare:=b.iQ.2.1}:dp).qx s (b.ins s p)).iZ x=b.iZ x):=by
   intro x;rcases hs with rfl|rfl<;>exact⟨rfl,rfl⟩
  have tr:(({b with a:=b.iQ.2.2,spare:=b.iQ.2.1}:dp).qx s (b.ins s p)).at_=b.at_:=by rcases hs with rfl|rfl<;>rfl
  have ha:(({b with a:=b.iQ.2.2,spare:=b.iQ.2.1}:dp).qx s (b.ins s p)).a=b.iQ.2.2:=by rcases hs with rfl|rfl<;>rfl
  have Qv:(({b with a:=b.iQ.2.2,spare:=b.iQ.2.1}:dp).qx s (b.ins s p)).spare=b.iQ.2.1:=by rcases hs with rfl|rfl<;>rfl
  obtain⟨rest,q1,q2⟩:=z9q (b:=({b with a:=b.iQ.2.2,spare:=b.iQ.2.1}:dp)) hs;have q2:=q2 (b.ins s p);have EV:(({b with a:=b.iQ.2.2,spare:=b.iQ.2.1}:dp).qx s (b.ins s p)).qs.Perm (b.iQ.1::({b with a:=b.iQ.2.2,spare:=b.iQ.2.1}:dp).qs):=by
   refine q2.trans (.trans ?_ (q1.symm.cons _));rw[<- uc];refine co _ ?_;show((b.ins s p).map (·.queue)).Perm (b.iQ.1::(b.eg s).map (·.queue))
   conv=>rhs;rw[hr]
   rw[dp.ins,jr,jr,jx];exact mo
  generalize hB:(({b with a:=b.iQ.2.2,spare:=b.iQ.2.1}:dp).qx s (b.ins s p))=B at*;have fin:∀Q',B.a.Wf Q'->B.a.dv=b.a.dv->B.a.free=b.a.free->(∀k,Q'.getD k []=Q.getD k [])->Q.getD b.iQ.1.toNat []=[]->(∀q∈B.qs,0<=q/\q<Q'.length)->B.qs.Nodup->B.qs.length=Q'.length->(∀q∈B.spare,Q.getD q.toNat []=[])->Q'.length<=250->∃Q' R1 R2,AF b Q s p B b.iQ.1 Q' R1 R2:=by
   intro Q' w1 w2 w3 w4 w5 w6 w7 w8 w9 w10;obtain⟨u1,u2⟩:=c.add hs hr ⟨h1,h2⟩ (b':=B) (Q':=Q') (n:=b.iQ.1) (by rw[g1];rfl) g2 tr w1 w2 w4 w5 w6 w7 w8 w9 w10;refine⟨Q',_,_,⟨u1,g1.trans rfl,⟨h1,h2⟩,u2,tr,w3,λL h=>⟨λo ho=> ?_,λs' iM hh=> ?_⟩,fg⟩⟩
   ·rw[(fg o.side).1,(fg o.side).2];exact h.fl o ho
   ·rw[(fg s').1]at hh;rw[(fg s').2];exact h.th s' iM hh
  by_cases he:b.spare.length=0
  ·have EY:b.iQ=((b.a.dz.length:Int),b.spare,b.a.rr):=by rw[dp.iQ,fh he]
   have HI:=c.wf.ql;have aaB:b.spare=[]:=yh he;have Co:B.qs.Perm ((Q.length:Int)::b.qs):=by
    rw[EY]at EV;rw[<- HI];exact EV
   refine fin (Q++[[]]) (by rw[ha,EY];exact c.wf.open) (by rw[ha,EY];rfl) (by rw[ha,EY];rfl) (λk=> ?_) ?_ (λq hq=> ?_) ?_ ?_ (λq hq=> ?_) ?_
   ·rw[yNy];split
    ·rename_i e;rw[e,nk,ue (lk _)];rfl
    ·rfl
   ·rw[EY,nk,ue (by dsimp only;omega)];rfl
   ·rw[iv];rcases mn.1 (Co.mem_iff.1 hq)with rfl|hq
    ·simp only[AN];omega
    ·have:=c.uf q hq;simp only[AN];omega
   ·refine Co.nodup_iff.2 (zk.2 ⟨λhm=> ?_,c.nd⟩);have:=c.uf _ hm;omega
   ·rw[Co.length_eq,iJ,iv,c.ql];rfl
   ·rw[Qv,EY]at hq;rw[aaB]at hq;cases hq
   ·have h1:=ZG (l:=b.eg 1) (f:=b.ia Q 1) λr hr e=>c.ne 1 (.inl rfl) r hr (λe2=>by have:=c.uf _ (gD (.inl rfl) hr);omega) (List.map_eq_nil_iff.1 e)
    have h2:=ZG (l:=b.eg 2) (f:=b.ia Q 2) λr hr e=>c.ne 2 (.inr rfl) r hr (λe2=>by have:=c.uf _ (gD (.inr rfl) hr);omega) (List.map_eq_nil_iff.1 e)
    have h3:=c.ql;rw[dp.flat,iv,dp.iu,dp.iu]at hl;rw[dp.qs,iv,iv,im,im,he]at h3;rw[sJ]at h1 hl;rw[eO]at h2 hl;rw[iv,AN];omega
  ·have EY:b.iQ=(b.spare.getD (b.spare.length-1) 0,b.spare.take (b.spare.length-1),b.a):=by rw[dp.iQ,fb he]
   obtain⟨sp,q,Ie⟩:∃sp q,b.spare=sp++[q]:=⟨_,_,(List.dropLast_concat_getLast (l:=b.spare) (by intro e;rw[e]at he;exact he rfl)).symm⟩
   have e1:b.iQ=(q,sp,b.a):=by
    rw[EY,Ie];simp
   have Co:B.qs.Perm b.qs:=by
    refine EV.trans ?_;rw[e1];show(q::(b.fc.map (·.queue)++b.dw.map (·.queue)++sp)).Perm (b.fc.map (·.queue)++b.dw.map (·.queue)++b.spare)
    rw[Ie,<- jh];exact O0 q _|>.symm
   have hq0:q∈b.spare:=by rw[Ie];simp
   refine fin Q (by rw[ha,e1];exact c.wf) (by rw[ha,e1]) (by rw[ha,e1]) (λ_=>rfl) (by rw[e1];exact c.sp q hq0) (λq hq=>c.uf q (Co.mem_iff.1 hq)) (Co.nodup_iff.2 c.nd) (by rw[Co.length_eq];exact c.ql) (λq' Vb=> ?_) c.qb;rw[Qv,e1]at Vb;exact c.sp q' (by rw[Ie];exact yg _ Vb)
def dp.Core.used {b:dp} {Q:List (List Nat)} (c:b.Core Q (-1)) (hl:(b.flat Q).length<250):b.a.free≠0:=by
 intro hf;have GZ:=c.wf.free;rw[hf]at GZ;have hz:(b.a.dv.map (·.used)).countP (!·)=0:=by omega
 rw[List.countP_eq_zero]at hz;have vt:∀k∈ao 250,k∈((b.eg 1).flatMap (xD Q)++(b.eg 2).flatMap (xD Q)):=by
  intro k hk;have hk:=B5.1 hk;obtain⟨s,hs⟩:=z6 (l:=b.a.dv) (i:=k) (by rw[c.wf.len];exact hk);have hu:s.used=ax:=by
   have:=hz s.used (tc (lq hs));simpa using this
  obtain⟨n,l,hn,qj⟩:=c.wf.us k s hs hu;have EZ:=(jv.1 hn).1;have hm:(n:Int)∈b.qs:=yDx c.nd (λx hx=>by rw[c.ql];exact c.uf x hx) (by rw[c.ql];exact EZ);have e:∀r:xM,r.queue=(n:Int)->k∈xD Q r:=by
   intro r hr;rw[xD,hr,oF,zT hn];exact qj
  rw[dp.qs]at hm;rcases pz.1 hm with hm|hm
  ·rcases pz.1 hm with hm|hm
   ·obtain⟨r,hr,er⟩:=pj.1 hm;exact yg _ (AL.2 ⟨r,hr,e r er⟩)
   ·obtain⟨r,hr,er⟩:=pj.1 hm;exact zn _ (AL.2 ⟨r,hr,e r er⟩)
  ·have:=c.sp _ hm;rw[oF,zT hn]at this;rw[this]at qj;cases qj
 have h1:=Ya List.nodup_range vt;have e:∀s,(b.iu Q s).length=((b.eg s).flatMap (xD Q)).length:=by
  intro s;rw[dp.iu,M3,M3];congr 1;exact uv λr _=>by rw[dp.ia,im]
 rw[iv,<- e,<- e,List.length_range]at h1;rw[dp.flat,iv]at hl;omega
def zXa {s p:Int} {o:zI} (h:o.side≠s) (gv:o.side=1\/o.side=2) (hs:s=1\/s=2):before s p o=decide (s=2):=by
 rw[before,ku h,CI,Bool.or_false];rcases hs with rfl|rfl
 ·rw[ku (by omega),ku (by omega)]
 ·rw[lg (by omega),lg rfl]
def AF.put {b:dp} {Q:List (List Nat)} {s p:Int} {b':dp} {n:Int} {Q':List (List Nat)} {R1 R2:List xM} (h:AF b Q s p b' n Q' R1 R2) (hs:s=1\/s=2) {id dr:Int} (top:Bool) (AR:id∉(b.flat Q).map (·.id)) (hf:b.a.free≠0) (hq:1<=dr/\dr<=1000000):
 ∃Q3 A B,({b' with a:=(b'.a.push n id dr top).1,at_:=eN id ⟨s,p,(b'.a.push n id dr top).2.1⟩ b'.at_}:dp).Core Q3 (-1)/\b'.flat Q'=A++B/\
  ({b' with a:=(b'.a.push n id dr top).1,at_:=eN id ⟨s,p,(b'.a.push n id dr top).2.1⟩ b'.at_}:dp).flat Q3=A++⟨id,s,p,dr,top⟩::B/\(∀o∈A,before s p o=ax)/\∀o∈B,before s p o=ay:=by
 have c:=h.core;have Ek:(⟨p,n⟩:xM)∈b'.eg s:=by rw[h.eg];simp
 have hnr:0<=n/\n<Q'.length:=c.uf n (gD hs Ek);obtain⟨m,rfl⟩:∃m:Nat,n=m:=⟨n.toNat,oM⟩
 have hl:Q'[m]? =az (xD Q' ⟨p,m⟩):=z2u (r:=⟨p,m⟩) hnr;obtain⟨k,k1,k2,k3,k4,kw,Qr,aba⟩:=c.wf.put (id:=id) hl (by rw[h.free];exact hf) top hq;have RG:b'.a.push m id dr top=(b'.a.put m id dr top,(k:Int),0):=by
  have:=c.wf.ql;rw[du.push,fb (by omega),fb (by omega),fb (by rw[h.free];exact hf),k1]
 rw[RG];dsimp only;have hmQ:=(jv.1 hl).1;have EW:∀s' (r:xM),(s'=1\/s'=2)->r∈b'.eg s'->(r.queue=m->s'=s/\r=⟨p,m⟩):=by
  intro s' r iM hr e;obtain⟨rest,q1,_⟩:=z9q (b:=b') hs;have qt:=q1.nodup_iff.1 c.nd;rw[h.eg,jr,jx]at qt;by_cases es:s'=s
  ·subst es;refine⟨rfl,?_⟩;rw[h.eg]at hr;have Qy:=(Af.1 qt).1;rcases pz.1 hr with hr|hr
   ·exact absurd e ((Af.1 Qy).2.2 r.queue (tc (f:=(·.queue)) hr) m jm)
   ·rcases mn.1 hr with rfl|hr
    ·rfl
    ·have:=(zk.1 (Af.1 Qy).2.1).1;exact absurd (e▸tc (f:=(·.queue)) hr) this
  ·exfalso;have GZ:=c.nd;rw[dp.qs]at GZ;have QA:=(Af.1 (Af.1 GZ).1).2.2;have ha:(m:Int)∈(b'.eg s).map (·.queue):=pj.2 ⟨_,Ek,rfl⟩
   have hb:(m:Int)∈(b'.eg s').map (·.queue):=pj.2 ⟨r,hr,e⟩
   rcases hs with rfl|rfl<;>rcases iM with rfl|rfl
   ·exact es rfl
   ·exact QA _ ha _ hb rfl
   ·exact QA _ hb _ ha rfl
   ·exact es rfl
 have zb:xD (Q'.set m (xD Q' ⟨p,m⟩++[k])) ⟨p,m⟩=xD Q' ⟨p,m⟩++[k]:=by
  show(Q'.set m _).getD (Int.toNat (m:Int)) []=_;rw[oF];exact zT (fW hmQ)
 have za:∀q:Int,0<=q->q≠m->(Q'.set m (xD Q' ⟨p,m⟩++[k])).getD q.toNat []=Q'.getD q.toNat []:=by
  intro q h0 ji;rw[nk,uG (by omega),nk]
 generalize hQ3:Q'.set m (xD Q' ⟨p,m⟩++[k])=Q3 at*;have Js:Q3.length=Q'.length:=by rw[<- hQ3,qv]
 have abg:=a8;have Ax:∀s' (r:xM),(s'=1\/s'=2)->r∈b'.eg s'->∀j∈xD Q' r,j≠k/\(vJ (b'.a.put m id dr top) s' r.dk j=vJ b'.a s' r.dk j/\vY (b'.a.put m id dr top) s' r.dk j=vY b'.a s' r.dk j):=by
  intro s' r iM hr j hj;have Pz:j≠k:=by rintro rfl;exact k4 _ _ (c.get iM hr) hj
  have:=Qr j;rw[fb Pz]at this;refine⟨Pz,by rw[vJ,vJ,this],?_⟩;have:=congrArg DN.id this;rw[vY,vY];exact congrArg (λi=>(i,(⟨s',r.dk,j⟩:Place))) this
 have GO:∀s' (r:xM),(s'=1\/s'=2)->r∈b'.eg s'->r.queue≠m->xD Q3 r=xD Q' r:=by
  intro s' r iM hr ji;exact za _ (c.uf _ (gD iM hr)).1 ji
 generalize hB:({b' with a:=b'.a.put m id dr top,at_:=eN id ⟨s,p,k⟩ b'.at_}:dp)=B3;have PU:∀s',B3.eg s'=b'.eg s':=by intro s';rw[<- hB];rfl
 have PW:B3.a=b'.a.put m id dr top:=by rw[<- hB]
 have aa3:B3.at_=eN id ⟨s,p,k⟩ b'.at_:=by rw[<- hB]
 have LA:B3.qs=b'.qs:=by rw[<- hB];rfl
 have aa2:B3.spare=b'.spare:=by rw[<- hB]
 have DG:∀s' (r:xM),(s'=1\/s'=2)->r∈b'.eg s'->r.queue≠m->B3.ia Q3 s' r=b'.ia Q' s' r/\(xD Q3 r).map (vY B3.a s' r.dk)=(xD Q' r).map (vY b'.a s' r.dk):=by
  intro s' r iM hr ji;rw[dp.ia,dp.ia,GO s' r iM hr ji,PW];exact⟨uv λj hj=>(Ax s' r iM hr j hj).2.1,uv λj hj=>(Ax s' r iM hr j hj).2.2⟩
 have Ii:vJ B3.a s p k=⟨id,s,p,dr,top⟩/\vY B3.a s p k=(id,⟨s,p,k⟩):=by
  have:=Qr k;rw[fh rfl]at this;rw[vJ,PW,this];refine⟨rfl,?_⟩;have:=congrArg DN.id this;rw[vY];exact congrArg (λi=>(i,(⟨s,p,k⟩:Place))) this
 have Qw:B3.ia Q3 s ⟨p,m⟩=b'.ia Q' s ⟨p,m⟩++[⟨id,s,p,dr,top⟩]/\(xD Q3 ⟨p,m⟩).map (vY B3.a s p)=(xD Q' ⟨p,m⟩).map (vY b'.a s p)++[(id,⟨s,p,k⟩)]:=by
  rw[dp.ia,dp.ia,zb,jr,jr,am,am];refine⟨?_,?_⟩
  ·rw[Ii.1,uv (g:=vJ b'.a s p) λj hj=>by rw[PW];exact(Ax s ⟨p,m⟩ hs Ek j hj).2.1]
  ·rw[Ii.2,uv (g:=vY b'.a s p) λj hj=>by rw[PW];exact(Ax s ⟨p,m⟩ hs Ek j hj).2.2]
 have Vp:∀r∈R1,r∈b'.eg s/\r.queue≠m:=by
  intro r hr;have hm:r∈b'.eg s:=by rw[h.eg];exact yg _ hr
  refine⟨hm,λe=> ?_⟩;have e2:=(EW s r hs hm e).2;have:=h.kj.a r hr;rw[e2,MA]at this;cases this
 have Ny:∀r∈R2,r∈b'.eg s/\r.queue≠m:=by
  intro r hr;have hm:r∈b'.eg s:=by rw[h.eg];exact zn _ (kg _ hr)
  refine⟨hm,λe=> ?_⟩;have e2:=(EW s r hs hm e).2;have:=h.kj.b r hr;rw[e2,MA]at this;cases this
 have zC:B3.iu Q3 s=(R1.flatMap (b'.ia Q' s)++b'.ia Q' s ⟨p,m⟩)++⟨id,s,p,dr,top⟩::R2.flatMap (b'.ia Q' s):=by
  rw[dp.iu,PU,h.eg,yq,wg,Qw.1,xE (l:=R1) (λr hr=>(DG s r hs (Vp r hr).1 (Vp r hr).2).1),xE (l:=R2) (λr hr=>(DG s r hs (Ny r hr).1 (Ny r hr).2).1)];simp
 have JF:b'.iu Q' s=(R1.flatMap (b'.ia Q' s)++b'.ia Q' s ⟨p,m⟩)++R2.flatMap (b'.ia Q' s):=by
  rw[dp.iu,h.eg,yq,wg,jh]
 have Qh:(B3.ml Q3 s).Perm ((id,⟨s,p,k⟩)::b'.ml Q' s):=by
  rw[dp.ml,PU,h.eg,yq,wg,Qw.2,xE (l:=R1) (λr hr=>(DG s r hs (Vp r hr).1 (Vp r hr).2).2),xE (l:=R2) (λr hr=>(DG s r hs (Ny r hr).1 (Ny r hr).2).2),dp.ml,h.eg,yq,wg];rw[jh,List.singleton_append,<- jh];refine mo.trans ?_;rw[jh]
 have other:∀s',s'≠s->s'=1\/s'=2->B3.iu Q3 s'=b'.iu Q' s'/\B3.ml Q3 s'=b'.ml Q' s':=by
  intro s' ji iM;have Ij:∀r∈b'.eg s',r.queue≠m:=λr hr e=>ji (EW s' r iM hr e).1
  rw[dp.iu,dp.iu,dp.ml,dp.ml,PU];exact⟨xE λr hr=>(DG s' r iM hr (Ij r hr)).1,xE λr hr=>(DG s' r iM hr (Ij r hr)).2⟩
 have bA:∀o∈R1.flatMap (b'.ia Q' s)++b'.ia Q' s ⟨p,m⟩,before s p o=ax:=by
  intro o ho;rcases pz.1 ho with ho|ho
  ·obtain⟨r,hr,ho⟩:=AL.1 ho;obtain⟨e1,e2⟩:=qL ho;rw[before,e1,e2,z1j (h.kj.a r hr)];simp
  ·obtain⟨e1,e2⟩:=qL ho;rw[before,e1,e2,MA];simp
 have bB:∀o∈R2.flatMap (b'.ia Q' s),before s p o=ay:=by
  intro o ho;obtain⟨r,hr,ho⟩:=AL.1 ho;obtain⟨e1,e2⟩:=qL ho;rw[before,e1,e2,h.kj.b r hr];simp
 have bO:∀s',s'≠s->s'=1\/s'=2->∀o∈b'.iu Q' s',before s p o=decide (s=2):=by
  intro s' ji iM o ho;have:=(nG ho).1;exact zXa oM oM hs
 have RX:∃A B,b'.flat Q'=A++B/\B3.flat Q3=A++⟨id,s,p,dr,top⟩::B/\(∀o∈A,before s p o=ax)/\∀o∈B,before s p o=ay:=by
  rcases hs with rfl|rfl
  ·refine⟨_,R2.flatMap (b'.ia Q' 1)++b'.iu Q' 2,?_,?_,bA,λo ho=> ?_⟩
   ·rw[dp.flat,JF];simp only[jh]
   ·rw[dp.flat,zC,(other 2 (by decide) (.inr rfl)).1];simp only[jh,uc]
   ·rcases pz.1 ho with ho|ho
    ·exact bB o ho
    ·exact bO 2 Z8 (.inr rfl) o ho
  ·refine⟨b'.iu Q' 1++(R1.flatMap (b'.ia Q' 2)++b'.ia Q' 2 ⟨p,m⟩),R2.flatMap (b'.ia Q' 2),?_,?_,λo ho=> ?_,bB⟩
   ·rw[dp.flat,JF];simp only[jh]
   ·rw[dp.flat,zC,(other 1 (by decide) (.inl rfl)).1];simp only[jh]
   ·rcases pz.1 ho with ho|ho
    ·exact bO 1 Z8 (.inl rfl) o ho
    ·exact bA o ho
 obtain⟨A,B,f1,f2,f3,f4⟩:=RX;refine⟨Q3,A,B,⟨by rw[PW];exact kw,λs' iM=>by rw[PU];exact c.xa s' iM,by rw[LA,Js];exact c.uf,by rw[LA];exact c.nd,by rw[LA,Js];exact c.ql,λs' iM r hr _=> ?_,λq hq=> ?_,?_,?_,by rw[Js];exact c.qb⟩,f1,f2,f3,f4⟩
 ·rw[PU]at hr;by_cases e:r.queue=m
  ·obtain⟨rfl,rfl⟩:=EW s' r iM hr e;rw[zb];simp
  ·rw[GO s' r iM hr e];exact c.ne s' iM r hr e
 ·rw[aa2]at hq;have Nr:q∈b'.qs:=zn _ hq;rw[za q (c.uf q Nr).1 λe=> ?_]
  ·exact c.sp q hq
  ·have GZ:=c.nd;rw[dp.qs]at GZ;refine(Af.1 GZ).2.2 m ?_ q hq e.symm;rcases hs with rfl|rfl
   ·exact yg _ (pj.2 ⟨_,Ek,rfl⟩)
   ·exact zn _ (pj.2 ⟨_,Ek,rfl⟩)
 ·have HJ:id∉b'.at_.map (·.1):=by
   rw[c.zx.mem_iff,h.flat];exact AR
  rw[aa3,z2z HJ];refine(O0 _ _).trans ?_;rcases hs with rfl|rfl
  ·rw[(other 2 (by decide) (.inr rfl)).2];exact(c.at_.cons _).trans (Qh.symm.append_right _)
  ·rw[(other 1 (by decide) (.inl rfl)).2];refine(c.at_.cons _).trans ?_;refine(mo.symm).trans (Qh.symm.append_left _)
 ·rw[f2,jr,jx];have h1:=c.ids;rw[f1,jr]at h1;have h2:id∉(A++B).map (·.id):=by rw[<- f1,h.flat];exact AR
  refine mo.nodup_iff.2 (zk.2 ⟨by rw[jr]at h2;exact h2,h1⟩)
def wZ (L:List zI) (id:Int):Bool:=L.any λo=>decide (o.id=id)
def D2 (L:List zI) (s id p q:Int):List zI×Int:=if q<1\/1000000<q then(L,24)else if wZ L id=ax then(L,25)else if 250<=L.length then(L,13)else(Ha L s id p q,0)
def kh {L:List zI} {id:Int}:wZ L id=ax↔id∈L.map (·.id):=by
 rw[wZ,MZ,pj];constructor
 ·rintro⟨o,ho,e⟩;exact⟨o,ho,oV e⟩
 ·rintro⟨o,ho,e⟩;exact⟨o,ho,lg e⟩
def rB {b:dp} {Q:List (List Nat)} {o:zI} (h:o∈b.flat Q):(o.side=1\/o.side=2)/\∃r∈b.eg o.side,o∈b.ia Q o.side r/\o.dk=r.dk:=by
 rcases pz.1 h with h|h
 all_goals
  obtain⟨e,r,hr,ho,hp⟩:=nG h;rw[e];exact⟨by simp,r,hr,ho,hp⟩
def BC {b:dp} {Q:List (List Nat)} {s:Int} (hs:s=1\/s=2) {o:zI} (h:o∈b.iu Q s):o∈b.flat Q:=by
 rcases hs with rfl|rfl
 ·exact yg _ h
 ·exact zn _ h
def dp.Core.leads {b:dp} {Q:List (List Nat)} (c:b.Core Q (-1)) {s:Int} (hs:s=1\/s=2) (p:Int):b.leads s p=gU (b.flat Q) s p:=by
 have Qu:=c.xa s hs;have ji:=c.ne s hs;rw[dp.leads];cases hr:b.eg s with
 |nil=>
  symm;dsimp only;rw[gU,DB];intro o ho;obtain⟨_,r,xf,_⟩:=rB ho;by_cases e:o.side=s
  ·rw[e,hr]at xf;cases xf
  ·rw[ku e];rfl
 |cons r0 l=>
  dsimp only;rw[hr,Hx]at Qu;have hm:r0∈b.eg s:=by rw[hr];exact jm
  cases hb:ki s p r0.dk with
  |true=>
   symm;rw[gU,DB];intro o ho;obtain⟨_,r,xf,_,hp⟩:=rB ho;by_cases e:o.side=s
   ·rw[e,hr]at xf;rw[hp];rcases mn.1 xf with rfl|xf
    ·rw[hb];simp
    ·rw[zUx hb (Qu.1 r xf)];simp
   ·rw[ku e];rfl
  |false=>
   symm;rw[gU,List.all_eq_false];have h0:=ji r0 hm λe=>by have:=c.uf _ (gD hs hm);omega
   cases hk:xD Q r0 with
   |nil=>exact absurd hk h0
   |cons k ks=>
    refine⟨vJ b.a s r0.dk k,BC hs (AL.2 ⟨r0,hm,by rw[dp.ia,hk];exact jm⟩),?_⟩;show ¬((!decide (s=s))||ki s p r0.dk)=ax;rw[hb];simp
def yBi {L:List zI} {s:Int} {o:zI} (h:o∈CX L s):∃o'∈L,o.id=o'.id/\o.side=o'.side/\o.dk=o'.dk/\o.dr=o'.dr/\o.top=(if o.side=s then ay else o'.top):=by
 obtain⟨o',ho,e⟩:=pj.1 h;refine⟨o',ho,?_⟩;by_cases c:o'.side=s
 ·rw[fh c]at e;subst e;exact(nn ((fh c).symm))
 ·rw[fb c]at e;subst e;exact(nn ((fb c).symm))
def ySo {L:List zI} {s:Int} {o:zI} (h:o∈L) (hs:o.side≠s):o∈CX L s:=pj.2 ⟨o,h,fb hs⟩
def yBv (L:List zI) (s:Int):(CX L s).map (·.id)=L.map (·.id):=by
 rw[CX,wb];refine uv λo _=> ?_
 simp only[cn];split<;>rfl
def z3j (b:dp) (id:Int) {s:Int} (hs:s=1\/s=2):(b.jf id s).a=b.iU s/\(b.jf id s).fc=b.fc/\(b.jf id s).dw=b.dw/\(b.jf id s).at_=b.at_/\(b.jf id s).spare=b.spare/\∀s',s'=1\/s'=2->(b.jf id s).mq s'=(if s'=s then ax else b.mq s')/\(b.jf id s).iZ s'=(if s'=s then id else b.iZ s'):=by
 rcases hs with rfl|rfl
 ·exact(yj (λs' h=>by rcases h with rfl|rfl<;>exact⟨rfl,rfl⟩))
 ·exact(yj (λs' h=>by rcases h with rfl|rfl<;>exact⟨rfl,rfl⟩))
def dp.Core.ma {b b':dp} {Q:List (List Nat)} {h:Int} (c:b.Core Q h) (e1:b'.a=b.a) (e2:b'.fc=b.fc) (e3:b'.dw=b.dw) (e4:b'.at_=b.at_) (e5:b'.spare=b.spare):b'.Core Q h/\b'.flat Q=b.flat Q:=by
 have er:∀s,b'.eg s=b.eg s:=λs=>by rw[dp.eg,dp.eg,e2,e3]
 have eo:∀s r,b'.ia Q s r=b.ia Q s r:=λs r=>by rw[dp.ia,dp.ia,e1]
 have es:∀s,b'.iu Q s=b.iu Q s:=λs=>by rw[dp.iu,dp.iu,er];exact xE λr _=>eo s r
 have ep:∀s,b'.ml Q s=b.ml Q s:=λs=>by rw[dp.ml,dp.ml,er,e1]
 have ef:b'.flat Q=b.flat Q:=by rw[dp.flat,dp.flat,es,es]
 have eq:b'.qs=b.qs:=by rw[dp.qs,dp.qs,e2,e3,e5]
 exact⟨⟨by rw[e1];exact c.wf,λs hs=>by rw[er];exact c.xa s hs,by rw[eq];exact c.uf,by rw[eq];exact c.nd,by rw[eq];exact c.ql,λs hs=>by rw[er];exact c.ne s hs,by rw[e5];exact c.sp,by rw[e4,ep,ep];exact c.at_,by rw[ef];exact c.ids,c.qb⟩,ef⟩
def dp.fq.ph {b:dp} {L:List zI} (h:b.fq L) {s:Int} (hs:s=1\/s=2) {id p q:Int} (AR:id∉L.map (·.id)) (hl:L.length<250) (hq:1<=q/\q<=1000000):(b.ph s id p q).fq (Ha L s id p q):=by
 obtain⟨Q,c,ht,rfl⟩:=h;have Pv:=c.leads hs p;have h1:(b.qk id s p).Core Q (-1)/\(b.qk id s p).flat Q=(if gU (b.flat Q) s p=ax then CX (b.flat Q) s else b.flat Q):=by
  rw[dp.qk,Pv];split
  ·obtain⟨e1,e2,e3,e4,e5,_⟩:=z3j b id hs;obtain⟨u1,u2⟩:=c.iU s;obtain⟨v1,v2⟩:=dp.Core.ma (b':=b.jf id s) (c.flag u1 u2) e1 e2 e3 e4 e5;exact⟨v1,v2.trans (c.CA ht hs)⟩
  ·exact⟨c,rfl⟩
 obtain⟨c1,f1⟩:=h1;have J3:((b.qk id s p).flat Q).length<250:=by
  rw[f1];split
  ·rw[CX,im];exact hl
  ·exact hl
 have aaS:id∉((b.qk id s p).flat Q).map (·.id):=by
  rw[f1];split
  ·rw[yBv];exact AR
  ·exact AR
 obtain⟨Q',R1,R2,EW⟩:=c1.queue J3 hs p;obtain⟨Q3,A,B,k1,k2,k3,k4,k5⟩:=EW.put hs (b.leads s p) aaS (c1.used J3) hq;have Lc:A++B=(if gU (b.flat Q) s p=ax then CX (b.flat Q) s else b.flat Q):=by rw[<- k2,EW.flat,f1]
 have Bf:Ha (b.flat Q) s id p q=A++⟨id,s,p,q,b.leads s p⟩::B:=by
  rw[Ha];obtain⟨t1,t2⟩:=yMo k4 k5;rw[<- Lc,t1,t2,Pv]
 refine⟨Q3,k1,?_,?_⟩
 ·rw[Bf,Pv];show dp.Bk {((b.qk id s p).ga s p).1 with a:=_,at_:=_} _;have tp:∀x,({((b.qk id s p).ga s p).1 with a:=(((b.qk id s p).ga s p).1.a.push ((b.qk id s p).ga s p).2 id q (b.leads s p)).1,at_:=eN id ⟨s,p,(((b.qk id s p).ga s p).1.a.push ((b.qk id s p).ga s p).2 id q (b.leads s p)).2.1⟩ ((b.qk id s p).ga s p).1.at_}:dp).mq x=(b.qk id s p).mq x/\({((b.qk id s p).ga s p).1 with a:=(((b.qk id s p).ga s p).1.a.push ((b.qk id s p).ga s p).2 id q (b.leads s p)).1,at_:=eN id ⟨s,p,(((b.qk id s p).ga s p).1.a.push ((b.qk id s p).ga s p).2 id q (b.leads s p)).2.1⟩ ((b.qk id s p).ga s p).1.at_}:dp).iZ x=(b.qk id s p).iZ x:=EW.dr;generalize ({((b.qk id s p).ga s p).1 with a:=(((b.qk id s p).ga s p).1.a.push ((b.qk id s p).ga s p).2 id q (b.leads s p)).1,at_:=eN id ⟨s,p,(((b.qk id s p).ga s p).1.a.push ((b.qk id s p).ga s p).2 id q (b.leads s p)).2.1⟩ ((b.qk id s p).ga s p).1.at_}:dp)=B3 at*;have Pd:∀o,o∈A++⟨id,s,p,q,gU (b.flat Q) s p⟩::B↔o=⟨id,s,p,q,gU (b.flat Q) s p⟩\/o∈A++B:=by
   intro o;rw[pz,mn,pz];constructor
   ·rintro(h|h|h)
    ·exact .inr (.inl h)
    ·exact .inl h
    ·exact .inr (.inr h)
   ·rintro(h|h|h)
    ·exact .inr (.inl h)
    ·exact .inl h
    ·exact .inr (.inr h)
  have Ei:∀o∈b.flat Q,o.side=1\/o.side=2:=λo ho=>(rB ho).1
  by_cases zy:gU (b.flat Q) s p=ax
  ·rw[fh zy]at Lc;have qe:b.qk id s p=b.jf id s:=by rw[dp.qk,fh (Pv.trans zy)]
   obtain⟨_,_,_,_,_,e6⟩:=z3j b id hs;rw[qe]at tp;refine⟨λo ho=> ?_,λs' iM hh=> ?_⟩
   ·rcases(Pd o).1 ho with rfl|ho
    ·rw[(tp s).1,(tp s).2,(e6 s hs).1,(e6 s hs).2,fh rfl,fh rfl,zy];simp
    ·rw[Lc]at ho;obtain⟨o',oG,i1,i2,_,_,i5⟩:=yBi ho;rw[(tp _).1,(tp _).2,i5,(e6 o.side (by rw[i2];exact Ei o' oG)).1,(e6 o.side (by rw[i2];exact Ei o' oG)).2];by_cases e:o.side=s
     ·rw[fh e,fh e,fh e,Ae];symm;refine ku λe2=>AR ?_
      rw[<- e2,i1];exact tc oG
     ·rw[fb e,fb e,fb e,ht.fl o' oG,i1,i2]
   ·rw[(tp s').2,(e6 s' iM).2];by_cases e:s'=s
    ·rw[fh e];exact⟨_,(Pd _).2 (.inl rfl),e.symm,rfl⟩
    ·rw[(tp s').1,(e6 s' iM).1,fb e]at hh;rw[fb e];obtain⟨o,ho,o1,o2⟩:=ht.th s' iM hh;exact⟨o,(Pd _).2 (.inr (by rw[Lc];exact ySo ho (by rw[o1];exact e))),o1,o2⟩
  ·rw[fb zy]at Lc;have hlf:gU (b.flat Q) s p=ay:=by simpa using zy
   have qe:b.qk id s p=b:=by rw[dp.qk,fb (by rw[Pv];exact zy)]
   rw[qe]at tp;refine⟨λo ho=> ?_,λs' iM hh=> ?_⟩
   ·rw[(tp _).1,(tp _).2];rcases(Pd o).1 ho with rfl|ho
    ·show gU (b.flat Q) s p=(b.mq s && decide (id=b.iZ s));rw[hlf];cases hh:b.mq s with
     |false=>rfl
     |true=>
      rw[Ae];symm;refine ku λe2=>AR ?_
      obtain⟨o,ho,_,o2⟩:=ht.th s hs hh;rw[e2,<- o2];exact tc ho
    ·rw[Lc]at ho;exact ht.fl o ho
   ·rw[(tp s').1]at hh;rw[(tp s').2];obtain⟨o,ho,o1,o2⟩:=ht.th s' iM hh;exact⟨o,(Pd _).2 (.inr (by rw[Lc];exact ho)),o1,o2⟩
 ·rw[Bf];exact k3.symm
def dp.fq.kr {b:dp} {L:List zI} (h:b.fq L) (id:Int):(kr b.at_ id).isSome=wZ L id:=by
 obtain⟨Q,c,ht,rfl⟩:=h;cases hg:Sx.kr b.at_ id with
 |none=>
  have:=Yd hg;rw[c.zx.mem_iff,<- kh]at this;symm;simpa using this
 |some x=>
  have:=tc (f:=(·.1)) (Oo hg)
  rw[c.zx.mem_iff,<- kh]at this;symm;exact this
def dp.fq.len {b:dp} {L:List zI} (h:b.fq L):b.at_.length=L.length:=by
 obtain⟨Q,c,ht,rfl⟩:=h;exact c.len
def dp.fq.add {b:dp} {L:List zI} (h:b.fq L) {s:Int} (hs:s=1\/s=2) (id p q:Int):(b.ic s id p q).1.fq (D2 L s id p q).1/\(b.ic s id p q).2=(D2 L s id p q).2:=by
 rw[dp.ic,D2,h.kr,h.len]
 repeat' split
 all_goals first|exact⟨h,rfl⟩|skip
 rename_i c1 c2 c3;exact⟨h.ph hs (λe=>c2 (kh.2 e)) oM oM,rfl⟩
def yEw:mg.fq []:=by
 refine⟨[],⟨⟨⟨by simp[mg,NQ],rfl,λn l h=>by simp at h,λn l h=>by simp at h,λn l h=>by simp at h,λk s hk hu=> ?_,?_⟩,λn l h=>by simp at h⟩,λs hs=> ?_,λq hq=>by simp[mg,dp.qs]at hq,by simp[mg,dp.qs],rfl,λs hs r hr=> ?_,λq hq=>by simp[mg]at hq,?_,?_,Z8⟩,⟨λo ho=>(by cases ho),λs hs hh=> ?_⟩,?_⟩
 ·have:=lq hk;rw[UL this]at hu;cases hu
 ·decide
 ·rcases hs with rfl|rfl<;>exact List.Pairwise.nil
 ·rcases hs with rfl|rfl<;>cases hr
 ·exact List.Perm.refl _
 ·exact List.nodup_nil
 ·rcases hs with rfl|rfl<;>cases hh
 ·rfl
structure Ex where
 b:dp
 s:Int
 r:xM
 l:List Nat
def Ex.ox (i:Ex):List zI:=(i.b.a.fy i.l).map λe=>⟨e.id,i.s,i.r.dk,e.dr,e.top⟩
def Dn:gi:=fp Ex (λi=>[.nm 0 0,zA i.s,.agg [zA i.r.dk,zA i.r.queue]]) (λi=>[yB i.b]) (λi=>i.b.a.pw i.r.queue i.l) (λ_=> .own 1) (λi=>[yB i.b,.own 258 5 (i.ox.map vI)])
def yTo (i:Ex):List gp:=[{ι:=Nat,dv:=λj=>[(7,.own 0),(18,zA j)],rows:=λj=>[.own 258 5 ((i.ox.take j).map vI)]}]
def fJ (a:Ll):=(aa D7 (a.a.fy a.l))
def yCp (i:Ex):Prop:=
 ∃(a:Ll),a.n=i.r.queue/\aq du 3 zF a.a=aq du 3 zF i.b.a/\a.a.pw a.n a.l/\∀(b:Unit),True->∃(c:Nat),(↑c:Int)=0/\aa vI (ac c i.ox)=[]/\∃(d:Nat->Prop),∃(e:Nat->Nat),d c/\∀(f:Nat),d f->dq (decide ((↑f:Int)<(↑(fJ a).length:Int))) ((0<=(↑f:Int)/\(↑f:Int)<(↑(fJ a).length:Int))/\∃(g:Int),∃(h:Int),∃(j:Int),∃(k:Bool),zD (fJ a) (↑f:Int).toNat 0 4=az [dI g,dI h,dI j,D.v (.bool k)]/\((aa vI (ac f i.ox)).length+1)*(40:Nat)<=(140737488355328:Nat)/\∃(l:Nat),(↑l:Int)=bo.wrap ((↑f:Int)+1)/\aa vI (ac l i.ox)=aa vI (ac f i.ox)++[[dI h,dI i.s,dI i.r.dk,dI j,D.v (.bool k)]]/\d l/\e l<e f/\dj (aq du 3 zF a.a)/\dj (au 312 4 (fJ a))/\dj (ar [V.d (dI i.r.dk),V.d (dI i.r.queue)] 276)/\dj (ar [V.nm 1 0,V.own 2,V.own 3,V.mp 4,V.d (dI i.b.gm),V.d (dI i.b.gn),V.own 5,V.d (D.v (.bool i.b.fv)),V.d (D.v (.bool i.b.fw))] (273:ce))/\dj (au 276 2 (aa zB i.b.fc))/\dj (au 276 2 (aa zB i.b.dw))/\dj (aw (iK i.b.at_))/\dj (au 3 1 (iE i.b.spare))) (∃(g:Unit),dj i.b.gm/\dj i.b.gn/\dj i.b.fv/\dj i.b.fw/\aq du 3 zF i.b.a=aq du 3 zF a.a/\dj (aa zB i.b.fc)/\dj (aa zB i.b.dw)/\dj (iK i.b.at_)/\dj (iE i.b.spare)/\aa vI i.ox=aa vI (ac f i.ox)/\True)
def y7a {l:List DN} {k:Nat} {e:DN} (h:l[k]? =az e):zD (l.map D7) k 0 4=az [D.v (.int .i64 e.slot),.v (.int .i64 e.id),.v (.int .i64 e.dr),.v (.bool e.top)]:=ju h (by simp[D7]) rfl
def yTc (i:Ex) (h:Dn.dq i):yCp i:=by
 have h:i.b.a.pw i.r.queue i.l:=h;have hl:=h.len;have hen:(i.b.a.fy i.l).length=i.l.length:=by simp[du.fy]
 have vf:i.ox.length=i.l.length:=by simp[Ex.ox,du.fy]
 unfold yCp fJ dI;refine⟨⟨i.b.a,i.r.queue,i.l⟩,rfl,rfl,h,λ_ _=> ?_⟩;simp only[im];refine⟨0,rfl,rfl,λj=>j<=i.l.length,λj=>i.l.length-j,mz _,λj hj=>zH (λc=> ?_) (λc=> ?_)⟩
 ·obtain⟨e,he⟩:=z6 (l:=i.b.a.fy i.l) (i:=j) oM;have ho:i.ox[j]? =az ⟨e.id,i.s,i.r.dk,e.dr,e.top⟩:=by rw[Ex.ox,vc,he];rfl
  refine⟨⟨oM,oM⟩,e.slot,e.id,e.dr,e.top,y7a he,by rw[om];omega,j+1,rf oM,?_,oM,Z9,gu⟩;rw[tb,ho];simp[vI]
 ·have E7:j=i.l.length:=by omega
  subst E7;rw[oh (l:=i.ox) (by omega)]
  exact kp
def zVj:Dn.ok Tryz.prog 247:=ib mixed (dx yMm fj) 0 (λ_=>[]) (λi=>yTo i) [0] Tryz.func247 yTc
open Go Go.RowKit Cv
def z3c {P:bz} {tS rt e sz oB:Nat} {z:Array bu} (hi:vT P tS=az (e,sz,oB,z)) {w:bv} {g i c n k:Nat} {A:Option cf} {cur src:List bu} {T:ce}
 (hg:w.heap[g]? =az (.cells cur.toArray T (0,0))) (hs:(be sz n (.slice A n k)).run P w= .ok src.toArray w) (hl:src.length=n*sz) (ta:i+n<=c) (Fm:i*sz+n*sz<=cur.length) (DT:∀v∈src,v.og=ax):
 gH P (bg #[tS,tS] rt #[.slice (az ⟨g,0,ba⟩) i c,.slice A n k]) w (.slice (az ⟨g,0,ba⟩) (i+n) c) (World.iX w g (.cells (kj cur (i*sz) src).toArray T (0,0))):=by
 obtain⟨inf,zv,q1,q2,rfl,rfl,q5,rfl⟩:=kP hi;have ln:=wI (P:=P) src 0 (i*inf.size) cur w hg oM DT;simp only[EJ]at ln;have GR:∀w,(Builtin.lenOf (.slice A n k)).run P w= .ok n w:=λw=>rfl
 unfold gH bg;simp only[AO,CK,A1,bind,pure,run_bind,Sem.bind,Sem.run,Cv.run_underlying q1,Cv.run_sizeOf q2,oK,if_false,hs,GR,ta,if_true,uD,oa,ln,I4]
def z6p {P:bz} {tS ty e sz oB:Nat} {z:Array bu} (hi:vT P tS=az (e,sz,oB,z)) (hz:z.size=sz) (h1:∀v∈z.toList,v.og=ax) {w:bv} {g o n c:Nat} {cur:List bu} {T:ce} (hn:0<n)
 (hg:w.heap[g]? =az (.cells cur.toArray T (0,0))) (Fm:o+n*sz<=cur.length):
 gH P (Builtin.clear_ #[tS] ty #[.slice (az ⟨g,o,ba⟩) n c]) w (.tuple #[]) (World.iX w g (.cells (kj cur o (bc z n).toList).toArray T (0,0))):=by
 obtain⟨inf,zv,q1,q2,rfl,rfl,q5,rfl⟩:=kP hi;have hlz:(bc zv.cells n).toList.length=n*inf.size:=by rw[Ja,cd,hz]
 have ln:=wI (P:=P) (bc zv.cells n).toList 0 o cur w hg oM (by
  intro v hv;obtain⟨i,hi,rfl⟩:=List.getElem_of_mem hv;simp only[bc,Array.getElem_toList,Array.getElem_map,Array.getElem_range];have wo:0<zv.cells.size:=by
   rcases Nat.eq_zero_or_pos zv.cells.size with h0|h0
   ·rw[hlz,<- hz,h0]at hi;omega
   ·exact h0
  have gv:i % zv.cells.size<zv.cells.size:=Nat.mod_lt _ wo;rw[getElem!_pos zv.cells (i % zv.cells.size) gv];exact h1 _ (by simp))
 simp only[EJ]at ln;have Eh:∀w,(zeroValue e).run P w= .ok zv w:=λw=>me (by unfold zero?;rw[q2];exact q5) w
 obtain⟨m,rfl⟩:∃m,n=m+1:=⟨n-1,oM⟩
 unfold gH Builtin.clear_;simp only[AO,CK,A1,bind,pure,run_bind,Sem.bind,Sem.run,Cv.run_underlying q1,Eh,ln]
def y0p (P:bz) (tS sz:Nat) (s:Option cf) (sn sk:Nat) (i j:Int) (w:bv) (R:Ending->bv->Prop):Prop:=
yZl s sk i j (sn:Int) sz λa1 na1 ka1=>
dq ((i:Int)==j) (
R (.returned (.slice s sn sk)) w) (
Ue w λw2=>
tn s sn sk ba (az i) sz λa3 na3 ka3=>
tn s sn sk (az j) ba sz λa4 na4 ka4=>
∃(a5:Option cf) (HB Je:Nat),∃w6:bv,gH P (bg #[tS,tS] tS #[.slice a3 na3 ka3,.slice a4 na4 ka4]) w2 (.slice a5 HB Je) w6/\
tn a5 HB Je (az (HB:Int)) (az (sn:Int)) sz λa7 na7 ka7=>
∃w8:bv,gH P (Builtin.clear_ #[tS] 0 #[.slice a7 na7 ka7]) w6 (.tuple #[]) w8/\
R (.returned (.slice a5 HB Je)) w8)
def y8c {P:bz} {tS e sz oB:Nat} {z:Array bu} (hi:vT P tS=az (e,sz,oB,z)) (hz:z.size=sz) (KZ:∀v∈z.toList,v.og=ax)
 {k:Ko} {w:bv} {L:List HP} {s:Option cf} {sn sk i j:Nat} {xs:List bu} (H:Hp k w (oq e sz s sn sk xs::L)) (h1:∀u∈xs,u.og=ax) (Jp:i<j) (hj:j<=sn):
 y0p P tS sz s sn sk i j w λen w'=>∃a kk,en= .returned (.slice a (sn-(j-i)) kk)/\Hp k w' (oq e sz a (sn-(j-i)) kk (xs.take (i*sz)++xs.drop (j*sz))::L):=by
 obtain⟨xd,HJ⟩:=H.len;rcases H.oC with⟨_,e0,_⟩|⟨b,r,rfl,g1,g2,g3,H0⟩
 ·omega
 have hle:i*sz<=xs.length:=by rw[xd];exact wz _ oM
 have aaP:j*sz<=xs.length:=by rw[xd];exact wz _ hj
 have GW:(xs.drop (j*sz)).length=(sn-j)*sz:=by rw[pd,xd,Nat.sub_mul]
 have Cm:i*sz+(sn-j)*sz=(sn-(j-i))*sz:=by rw[<- zi];congr 1;omega
 have JX:i*sz+(sn-j)*sz+(j-i)*sz=sn*sz:=by rw[<- zi,<- zi];congr 1;omega
 have abb:j*sz+(sn-j)*sz=sn*sz:=by rw[<- zi];congr 1;omega
 have hlen:(xs++r).length=xs.length+r.length:=iv;unfold y0p;simp only[yZl,tn,oF];refine⟨⟨oM,oM,oM,oM⟩,Cv.dq.mk (λc=>absurd c (by simp;omega)) λ_=> ?_⟩;rintro _ rfl;have H1:=H0.drew;have DS:(be sz (sn-j) (.slice (if sk=j then az ⟨b,0,ba⟩else(az ⟨b,0,ba⟩:Option cf).map (·.add (j*sz))) (sn-j) (sk-j))).run P w.drew= .ok (xs.drop (j*sz)).toArray w.drew:=by
  by_cases h0:(sn-j)*sz=0
  ·have:xs.drop (j*sz)=[]:=yh oM;rw[this];by_cases hk:sk=j
   ·rw[fh hk];unfold be;rw[h0];rfl
   ·rw[fb hk,we,uD];unfold be;rw[h0];rfl
  ·have hk:sk≠j:=by rintro rfl;have:sn-sk=0:=by omega
                    rw[this]at h0;simp at h0
   rw[fb hk,we,uD];unfold be;rw[gN H1.get (by rw[hlen];omega)];rw[oa,EN aaP,xk (by omega),oh (by omega)]
 refine⟨⟨oM,oM⟩,⟨oM,oM,HJ⟩,_,_,_,_,z3c (i:=i) (c:=sk) hi H1.get DS GW oM (by rw[hlen];omega) (λv hv=>h1 v (Jb hv)),⟨oM,oM,oM⟩,?_⟩;have H2:=H1.yt (.cells (kj (xs++r) (i*sz) (xs.drop (j*sz))).toArray e);have e1:i+(sn-j)=sn-(j-i):=by omega
 rw[fb (show sk≠i+(sn-j)by omega),we,uD,oa,e1];have QH:kj (xs++r) (i*sz) (xs.drop (j*sz))=(xs.take (i*sz)++xs.drop (j*sz))++(xs++r).drop ((sn-(j-i))*sz):=by
  simp only[kj];rw[xk hle,GW,Cm]
 rw[QH]at H2;have hA:(xs.take (i*sz)++xs.drop (j*sz)).length=(sn-(j-i))*sz:=by
  rw[iv,om,GW];omega
 have hB:((xs++r).drop ((sn-(j-i))*sz)).length=(j-i)*sz+r.length:=by
  rw[pd,hlen];omega
 rw[QH];have hn:sn-(sn-(j-i))=j-i:=by omega
 rw[hn];refine⟨_,z6p hi hz KZ oM H2.get (by rw[iv,hA,hB];omega),_,_,rfl,?_⟩;have H3:=H2.yt (.cells (kj (xs.take (i*sz)++xs.drop (j*sz)++(xs++r).drop ((sn-(j-i))*sz)) ((sn-(j-i))*sz) (bc z (j-i)).toList).toArray e);have es:=V0 (xs.take (i*sz)++xs.drop (j*sz)) ((xs++r).drop ((sn-(j-i))*sz)) (bc z (j-i)).toList;rw[hA]at es;rw[es]at H3;rw[es];rw[jh (xs.take (i*sz)++xs.drop (j*sz))]at H3 ⊢;have CO:(bc z (j-i)).toList.length=(j-i)*sz:=by rw[Ja,cd,hz]
 refine H3.As hA ?_ oM;rw[iv,hA,iv,CO,pd,hB,<- g2,hlen,xd];omega
structure yWj where
 ez:List (List D)
 i:Nat
 j:Nat
def y1g (e sz:Nat):gi where
 ι:=yWj
 pat:=λi=>[.own 0,.d (.v (.int .i64 i.i)),.d (.v (.int .i64 i.j))]
 pre:=λi=>[.own e sz i.ez]
 dq:=λi=>i.i<i.j/\i.j<=i.ez.length
 alts:=λi=>[{o:=Unit,res:=λ_=> .own 1,post:=λ_=>[.gone,.own e sz (i.ez.take i.i++i.ez.drop i.j)],rel:=λ_=>True}]
def Iy {P:bz} (hm:P.follows .mixedOrders=ax) {tS e sz oB fI:Nat} {z:Array bu} {fn:Func} {c:Code} (hf:P.funcs[fI]? =az fn) (hb:fn.body=az c) (BQ:hZ P fI=ax) (oS:xb fn.ntmps c=ax) (K5:okF [] c=ax) (Lm:Nat.ble 3 fn.ntmps=ax)
 (hi:vT P tS=az (e,sz,oB,z)) (hz:z.size=sz) (KZ:∀v∈z.toList,v.og=ax)
 (heq:∀(s:Option cf) (sn sk:Nat) (i j:Int) (w:bv) (R:Ending->bv->Prop),y0p P tS sz s sn sk i j w R=Et P [] c (Sk P fn R) (hJ [.slice s sn sk,.int .i64 i,.int .i64 j]) w):
 (y1g e sz).ok P fI:=by
 intro i hc k L E w ys R hv;obtain⟨c1,c2⟩:i.i<i.j/\i.j<=i.ez.length:=hc;simp only[y1g,gw,VR,DR]at hv;obtain⟨y0,_,rfl,⟨l0,e0,_⟩,y1,_,rfl,⟨rfl,_⟩,y2,_,rfl,⟨rfl,_⟩,rfl⟩:=hv;obtain⟨s,sk,xs,aaa,g1,vp,hu,H⟩:=R.si (n:=0) (t:=e) (sz:=sz) (ez:=i.ez) rfl;rw[e0]at g1;cases g1;have H2:Hp k w (oq e sz s i.ez.length sk xs::fz E.F::L):=H;have hv:=y8c hi hz KZ H2 vp.one c1 c2;have vz:=zLz (args:=[.slice s i.ez.length sk,.int .i64 i.i,.int .i64 i.j]) hm hf hb [] oS K5 Lm (heq s i.ez.length sk i.i i.j w _) hv;refine mT BQ (vz.mono ?_);rintro en w' ⟨a,kk,rfl,H3⟩;have hl:(i.ez.take i.i++i.ez.drop i.j).length=i.ez.length-(i.j-i.i):=by
  rw[iv,om,pd];omega
 have H4:Hp k w' (oq e sz a (i.ez.take i.i++i.ez.drop i.j).length kk (xs.take (i.i*sz)++xs.drop (i.j*sz))::(([]:List (Nat×fi)).map (gz E)++fz E.F::L)):=by
  rw[hl];exact H3
 obtain⟨E',r1,r2,r3⟩:=bH (nx:=1) R.nx (by
  rw[M4,<- sC i.i hu,<- r9 i.j hu];exact(vp.take _).append (vp.drop _)) (λx hx=>by
   rcases pz.1 hx with hx|hx
   ·exact hu x (M6 hx)
   ·exact hu x (Jb hx)) H4
 rw[hl]at r3;refine⟨_,rfl,_,vm.2 rfl,(),trivial,E',r1,r3,⟨r2.nx,?_⟩⟩;exact((@h9 k w' True _).2 ⟨trivial,r2.hp⟩).imp (B:=gz E' (0,.gone)) λx hx=> .inl ⟨rfl,hx.2⟩
def pJ (k:Int):List (Int×Place)->List (Int×Place)
 |[]=>[]
 |(a,b)::l=>if k=a then l else(a,b)::pJ k l
structure C3 where
 b:dp
 id:Int
 dk:Int
 slot:Int
def dp.j' (b:dp) (s id:Int):dp:=if b.mq s=ax/\b.iZ s=id then(if s=1 then{b with fv:=ay}else{b with fw:=ay})else b
def dp.iL (b:dp) (s id dk:Int):dp:=
 if(b.a.qc ((b.eg s).getD (zZ s (b.eg s) dk) ⟨0,0⟩).queue).count=0 then
  ({b.j' s id with at_:=pJ id b.at_,spare:=b.spare++[((b.eg s).getD (zZ s (b.eg s) dk) ⟨0,0⟩).queue]}:dp).qx s ((b.eg s).take (zZ s (b.eg s) dk)++(b.eg s).drop (zZ s (b.eg s) dk+1))
 else{b.j' s id with at_:=pJ id b.at_}
def yPn (b:dp):fi:= .cells [.nm 1 0,.own 6,.own 7,.mp 4,zA b.gm,zA b.gn,.own 8,yN b.fv,yN b.fw] 273
@[reducible] def yVo (b:dp):List fi:=[yPn b,zQ b 1,.gone,.gone,zQ b 4,.gone,zQ b 2,zQ b 3,zQ b 5]
@[reducible] def C3.ok (i:C3) (s:Int):Prop:=i.b.small/\zZ s (i.b.eg s) i.dk<(i.b.eg s).length
def yLr (s:Int):gi:=fp C3 (λi=>[.nm 0 0,zA i.id,.agg [zA s,zA i.dk,zA i.slot]]) (λi=>IL i.b) (λi=>i.ok s) (λ_=>bN) (λi=>yVo (i.b.iL s i.id i.dk))
def F0:gi:=yLr 1
def FZ:gi:=yLr 2
structure DrJ where
 i:C3
 s:Bool
def R6:gi:=fp DrJ (λj=>[.nm 0 0,zA j.i.id,.agg [zA (zC j.s),zA j.i.dk,zA j.i.slot]]) (λj=>IL j.i.b) (λj=>j.i.ok (zC j.s)) (λ_=>bN) (λj=>yVo (j.i.b.iL (zC j.s) j.i.id j.i.dk))
def R8:gi:=y1g 276 2
def y1q:zI:=⟨0,0,0,0,ay⟩
def cM (L:List zI) (id:Int):zI:=(L.find? λo=>decide (o.id=id)).getD y1q
def gB (L:List zI) (id q:Int):List zI:=L.filterMap λo=>if o.id=id then(if o.dr=q then ba else az {o with dr:=o.dr-q})else az o
def qA (L:List zI) (id q:Int):List zI×Int:=if wZ L id=ay then(L,26)else if q<1\/(cM L id).dr<q then(L,24)else(gB L id q,0)
def vg (L:List zI) (s p:Int):List zI:=L.filter λo=>decide (o.side=s) && decide (o.dk=p)
def xm:List zI->List Lv
 |[]=>[]
 |o::l=>match xm l with
  |[]=>[⟨o.dk,o.dr,1⟩]
  |v::vs=>if v.dk=o.dk then⟨v.dk,o.dr+v.dr,v.count+1⟩::vs else⟨o.dk,o.dr,1⟩::v::vs
def gL (L:List zI) (s:Int):List Lv:=xm (L.filter λo=>decide (o.side=s))
def iG (L:List zI) (s:Int):Lv×Bool:=match gL L s with
 |[]=>(⟨0,0,0⟩,ay)
 |v::_=>(v,ax)
structure HZ where
 b:dp
 L:List zI
structure Cj where
 b:dp
 L:List zI
 id:Int
 dr:Int
structure H9 where
 b:dp
 L:List zI
 s:Bool
 dk:Int
def J6:gi where
 ι:=Cj
 pat:=λi=>[.nm 0 0,zA i.id,zA i.dr]
 pre:=λi=>[yB i.b]
 dq:=λi=>i.b.fq i.L
 alts:=λi=>[{o:=dp,res:=λ_=>zA (qA i.L i.id i.dr).2,post:=λb=>[yB b],rel:=λb=>b.fq (qA i.L i.id i.dr).1}]
def F5:gi:=fp Cj (λi=>[.nm 0 0,zA i.id]) (λi=>[yB i.b]) (λi=>i.b.fq i.L) (λi=> .ja [MQ (cM i.L i.id),yN (wZ i.L i.id)]) (λi=>[yB i.b])
def y5t (s:Bool):gi:=fp H9 (λi=>[.nm 0 0,zA (zC s),zA i.dk]) (λi=>[yB i.b]) (λi=>i.b.fq i.L) (λ_=> .own 1) (λi=>[yB i.b,.own 258 5 ((vg i.L (zC s) i.dk).map vI)])
def QP:gi:=y5t ay
def QO:gi:=y5t ax
def atC:gi:=fp H9 (λi=>[.nm 0 0,zA (zC i.s),zA i.dk]) (λi=>[yB i.b]) (λi=>i.b.fq i.L) (λ_=> .own 1) (λi=>[yB i.b,.own 258 5 ((vg i.L (zC i.s) i.dk).map vI)])
def xC (a:C3):=(a.b.iL 1 a.id a.dk)
def XF (a:oO) (b:C3):Prop:=a.b.fw=b.b.fw/\aq du 3 zF a.b.a=zQ b.b 1/\aa zB a.b.fc=aa zB b.b.fc/\aa zB a.b.dw=aa zB b.b.dw/\iK a.b.at_=BI (cg bo b.id) (iK b.b.at_)/\iE a.b.spare=iE b.b.spare/\(qH a)/\∀(c:Unit),True->(fU a)/\∃(d:Int),zD (aa zB a.b.fc) (xX a).toNat 1 1=az [dI d]/\∃(e:vy),e.n=d/\aq du 3 zF e.a=aq du 3 zF a.b.a/\True/\∀(f:Unit),True->dq ((e.a.qc e.n).count==0) (((iE a.b.spare).length+1)*(8:Nat)<=(140737488355328:Nat)/\∃(g:yWj),(↑g.i:Int)=(xX a)/\(↑g.j:Int)=bo.wrap ((xX a)+1)/\g.ez=aa zB a.b.fc/\(g.i<g.j/\g.j<=g.ez.length)/\∀(h:Unit),True->dj ((1:Int))/\∃(j:Unit),(xC b).gm=a.b.gm/\(xC b).gn=a.b.gn/\(xC b).fv=a.b.fv/\(xC b).fw=a.b.fw/\aq du 3 zF (xC b).a=aq du 3 zF e.a/\iK (xC b).at_=iK a.b.at_/\aa zB (xC b).fc=ac g.i g.ez++ap g.j g.ez/\aa zB (xC b).dw=aa zB a.b.dw/\iE (xC b).spare=iE a.b.spare++[[dI d]]/\True) (∃(g:Unit),(xC b).gm=a.b.gm/\(xC b).gn=a.b.gn/\(xC b).fv=a.b.fv/\(xC b).fw=a.b.fw/\aq du 3 zF (xC b).a=aq du 3 zF e.a/\iK (xC b).at_=iK a.b.at_/\aa zB (xC b).fc=aa zB a.b.fc/\aa zB (xC b).dw=aa zB a.b.dw/\iE (xC b).spare=iE a.b.spare/\True)
def XN (a:C3):Prop:=∃(b:oO),dj ((1:Int))/\b.dk=a.dk/\b.b.gm=a.b.gm/\b.b.gn=a.b.gn/\b.b.fv=a.b.fv/\XF b a
def yHa (i:C3):Prop:=
 (∀(a:bu×List D),a∈iK i.b.at_->ma (cg bo i.id) a.fst=ax)/\dq i.b.fv (dq (i.b.gm==i.id) (∃(a:oO),dj ((1:Int))/\a.dk=i.dk/\a.b.gm=i.b.gm/\a.b.gn=i.b.gn/\a.b.fv=ay/\XF a i) (XN i)) (XN i)
def xB (a:C3):=(a.b.iL 2 a.id a.dk)
def XO (a:oO) (b:C3):Prop:=aq du 3 zF a.b.a=zQ b.b 1/\aa zB a.b.fc=aa zB b.b.fc/\aa zB a.b.dw=aa zB b.b.dw/\iK a.b.at_=BI (cg bo b.id) (iK b.b.at_)/\iE a.b.spare=iE b.b.spare/\(qH a)/\∀(c:Unit),True->(fP a)/\∃(d:Int),zD (aa zB a.b.dw) (xY a).toNat 1 1=az [dI d]/\∃(e:vy),e.n=d/\aq du 3 zF e.a=aq du 3 zF a.b.a/\True/\∀(f:Unit),True->dq ((e.a.qc e.n).count==0) (((iE a.b.spare).length+1)*(8:Nat)<=(140737488355328:Nat)/\∃(g:yWj),(↑g.i:Int)=(xY a)/\(↑g.j:Int)=bo.wrap ((xY a)+1)/\g.ez=aa zB a.b.dw/\(g.i<g.j/\g.j<=g.ez.length)/\∀(h:Unit),True->dj ((2:Int))/\∃(j:Unit),(xB b).gm=a.b.gm/\(xB b).gn=a.b.gn/\(xB b).fv=a.b.fv/\(xB b).fw=a.b.fw/\aq du 3 zF (xB b).a=aq du 3 zF e.a/\iK (xB b).at_=iK a.b.at_/\aa zB (xB b).fc=aa zB a.b.fc/\aa zB (xB b).dw=ac g.i g.ez++ap g.j g.ez/\iE (xB b).spare=iE a.b.spare++[[dI d]]/\True) (∃(g:Unit),(xB b).gm=a.b.gm/\(xB b).gn=a.b.gn/\(xB b).fv=a.b.fv/\(xB b).fw=a.b.fw/\aq du 3 zF (xB b).a=aq du 3 zF e.a/\iK (xB b).at_=iK a.b.at_/\aa zB (xB b).fc=aa zB a.b.fc/\aa zB (xB b).dw=aa zB a.b.dw/\iE (xB b).spare=iE a.b.spare/\True)
def YA (a:C3):Prop:=∃(b:oO),dj ((2:Int))/\b.dk=a.dk/\b.b.gm=a.b.gm/\b.b.gn=a.b.gn/\b.b.fv=a.b.fv/\b.b.fw=a.b.fw/\XO b a
def yMs (i:C3):Prop:=
 (∀(a:bu×List D),a∈iK i.b.at_->ma (cg bo i.id) a.fst=ax)/\dq i.b.fw (dq (i.b.gn==i.id) (∃(a:oO),dj ((2:Int))/\a.dk=i.dk/\a.b.gm=i.b.gm/\a.b.gn=i.b.gn/\a.b.fv=i.b.fv/\a.b.fw=ay/\XO a i) (YA i)) (YA i)
def Zf (a:Cj):Prop:=aa zB a.b.fc=aa zB a.b.fc/\dj (aa zB a.b.dw)/\dj (iK a.b.at_)/\dj (iE a.b.spare)/\True
def YR (a:Int) (b:Cj) (c:Int) (d:Int):Prop:=∃(e:vy),e.n=a/\aq du 3 zF e.a=aq du 3 zF b.b.a/\e.a.dv.length<=1000000/\∀(f:Unit),True->∃(g:Unit),(cM b.L b.id).id=b.id/\(cM b.L b.id).side=c/\(cM b.L b.id).dk=d/\(cM b.L b.id).dr=(e.a.np e.n).fst.dr/\(cM b.L b.id).top=(e.a.np e.n).fst.top/\wZ b.L b.id=ax/\dj b.b.gm/\dj b.b.gn/\dj b.b.fv/\dj b.b.fw/\aq du 3 zF b.b.a=aq du 3 zF e.a/\Zf b
def sH (a:Cj) (b:Int) (c:Int) (d:Int) (e:Bool):Prop:=kR (cg bo a.id) (iK a.b.at_)=az [dI b,dI c,dI d]/\e=ax\/kR (cg bo a.id) (iK a.b.at_)=ba/\[dI b,dI c,dI d]=[dI 0,dI 0,dI 0]/\e=ay
def yJd (i:Cj):Prop:=
 (∀(a:bu×List D),a∈iK i.b.at_->ma (cg bo i.id) a.fst=ax)/\∃(a:Bool),∃(b:Int),∃(c:Int),∃(d:Int),(sH i b c d a)/\dq (!a) (∃(e:Unit),(cM i.L i.id).id=0/\(cM i.L i.id).side=0/\(cM i.L i.id).dk=0/\(cM i.L i.id).dr=0/\(cM i.L i.id).top=ay/\wZ i.L i.id=ay/\dj i.b.gm/\dj i.b.gn/\dj i.b.fv/\dj i.b.fw/\dj (aq du 3 zF i.b.a)/\Zf i) ((YR d i b c)/\d=d/\True/\YR d i b c)
def TN (a:dp) (b:Cj):Prop:=aa zB a.fc=aa zB b.b.fc/\aa zB a.dw=aa zB b.b.dw/\iK a.at_=iK b.b.at_/\iE a.spare=iE b.b.spare/\a.fq (qA b.L b.id b.dr).fst
def vQ (a:DrJ):=(a.i.b.iL (zC a.s) a.i.id a.i.dk)
def WH (a:Cj) (b:Int) (c:Int) (d:Int) (e:vy):Prop:=∃(f:DrJ),f.i.id=a.id/\zC f.s=b/\f.i.dk=c/\f.i.slot=d/\f.i.b.gm=a.b.gm/\f.i.b.gn=a.b.gn/\f.i.b.fv=a.b.fv/\f.i.b.fw=a.b.fw/\aq du 3 zF f.i.b.a=aq du 3 zF e.a/\aa zB f.i.b.fc=aa zB a.b.fc/\aa zB f.i.b.dw=aa zB a.b.dw/\iK f.i.b.at_=iK a.b.at_/\iE f.i.b.spare=iE a.b.spare/\(((f.i.b.a.dv.length<=1000000/\f.i.b.a.dz.length<=1000000)/\f.i.b.fc.length<=1000000/\f.i.b.dw.length<=1000000/\f.i.b.spare.length<=1000000)/\zZ (zC f.s) (f.i.b.eg (zC f.s)) f.i.dk<(f.i.b.eg (zC f.s)).length)/\∀(g:Unit),True->∃(h:dp),(qA a.L a.id a.dr).snd=0/\h.gm=(vQ f).gm/\h.gn=(vQ f).gn/\h.fv=(vQ f).fv/\h.fw=(vQ f).fw/\aq du 3 zF h.a=aq du 3 zF (vQ f).a/\aa zB h.fc=aa zB (vQ f).fc/\aa zB h.dw=aa zB (vQ f).dw/\iK h.at_=iK (vQ f).at_/\iE h.spare=iE (vQ f).spare/\h.fq (qA a.L a.id a.dr).fst
def Wo (a:Int) (b:Cg) (c:Cj) (d:Int) (e:Int):Prop:=∃(f:vy),f.n=a/\aq du 3 zF f.a=aq du 3 zF (b.a.gl b.n b.dr).fst/\f.a.dv.length<=1000000/\∀(g:Unit),True->dq (!(f.a.np f.n).snd) (WH c d e a f) (dq ((f.a.np f.n).fst.id !=c.id) (WH c d e a f) (∃(h:dp),(qA c.L c.id c.dr).snd=0/\h.gm=c.b.gm/\h.gn=c.b.gn/\h.fv=c.b.fv/\h.fw=c.b.fw/\aq du 3 zF h.a=aq du 3 zF f.a/\TN h c))
def yVm (i:Cj):Prop:=
 (∀(a:bu×List D),a∈iK i.b.at_->ma (cg bo i.id) a.fst=ax)/\∃(a:Bool),∃(b:Int),∃(c:Int),∃(d:Int),(sH i b c d a)/\dq (!a) (∃(e:dp),(qA i.L i.id i.dr).snd=26/\e.gm=i.b.gm/\e.gn=i.b.gn/\e.fv=i.b.fv/\e.fw=i.b.fw/\aq du 3 zF e.a=aq du 3 zF i.b.a/\TN e i) (∃(e:Cg),e.n=d/\e.dr=i.dr/\aq du 3 zF e.a=aq du 3 zF i.b.a/\(e.a.dv.length<=1000000/\∀(k:Nat) (s:Slot),e.a.dv[k]?=az s->s.used=ax->(0<=s.queue/\s.queue<(↑e.a.dz.length:Int))/\s.dr<=1000000/\(s.ahead=(-1)\/0<=s.ahead/\s.ahead<(↑e.a.dv.length:Int)/\s.ahead≠(↑k:Int))/\(s.back=(-1)\/0<=s.back/\s.back<(↑e.a.dv.length:Int)/\s.back≠(↑k:Int)))/\∀(f:Unit),True->dq ((e.a.gl e.n e.dr).snd !=0) (∃(g:dp),(qA i.L i.id i.dr).snd=(e.a.gl e.n e.dr).snd/\g.gm=i.b.gm/\g.gn=i.b.gn/\g.fv=i.b.fv/\g.fw=i.b.fw/\aq du 3 zF g.a=aq du 3 zF (e.a.gl e.n e.dr).fst/\TN g i) ((Wo d e i b c)/\d=d/\True/\Wo d e i b c))
def y2p (i:H9):Prop:=
 ∃(a:Int),a=zC ay/\True/\∀(b:Unit),True->dq (kA a) (∃(c:Unit),dj i.b.gm/\dj i.b.gn/\dj i.b.fv/\dj i.b.fw/\dj (aq du 3 zF i.b.a)/\dj (aa zB i.b.fc)/\dj (aa zB i.b.dw)/\dj (iK i.b.at_)/\dj (iE i.b.spare)/\aa vI (vg i.L (zC ay) i.dk)=[]/\True) (∃(c:oO),1=zC ay/\c.dk=i.dk/\c.b.gm=i.b.gm/\c.b.gn=i.b.gn/\c.b.fv=i.b.fv/\c.b.fw=i.b.fw/\aq du 3 zF c.b.a=aq du 3 zF i.b.a/\aa zB c.b.fc=aa zB i.b.fc/\aa zB c.b.dw=aa zB i.b.dw/\iK c.b.at_=iK i.b.at_/\iE c.b.spare=iE i.b.spare/\(qH c)/\∀(d:Unit),True->dq (!kT 1 (c.b.eg 1) c.dk) (∃(e:Unit),i.b.gm=c.b.gm/\i.b.gn=c.b.gn/\i.b.fv=c.b.fv/\i.b.fw=c.b.fw/\aq du 3 zF i.b.a=aq du 3 zF c.b.a/\aa zB i.b.fc=aa zB c.b.fc/\aa zB i.b.dw=aa zB c.b.dw/\iK i.b.at_=iK c.b.at_/\iE i.b.spare=iE c.b.spare/\aa vI (vg i.L (zC ay) i.dk)=[]/\True) ((fU c)/\∃(e:Int),∃(f:Int),zD (aa zB c.b.fc) (xX c).toNat 0 2=az [dI e,dI f]/\∃(g:Ex),g.s=zC ay/\g.r.dk=e/\g.r.queue=f/\g.b.gm=c.b.gm/\g.b.gn=c.b.gn/\g.b.fv=c.b.fv/\g.b.fw=c.b.fw/\aq du 3 zF g.b.a=aq du 3 zF c.b.a/\aa zB g.b.fc=aa zB c.b.fc/\aa zB g.b.dw=aa zB c.b.dw/\iK g.b.at_=iK c.b.at_/\iE g.b.spare=iE c.b.spare/\g.b.a.pw g.r.queue g.l/\∀(h:Unit),True->∃(j:Unit),yB i.b=yB g.b/\aa vI (vg i.L (zC ay) i.dk)=aa vI g.ox/\True))
def y5m (i:H9):Prop:=
 ∃(a:Int),a=zC ax/\True/\∀(b:Unit),True->dq (kA a) (∃(c:Unit),dj i.b.gm/\dj i.b.gn/\dj i.b.fv/\dj i.b.fw/\dj (aq du 3 zF i.b.a)/\dj (aa zB i.b.fc)/\dj (aa zB i.b.dw)/\dj (iK i.b.at_)/\dj (iE i.b.spare)/\aa vI (vg i.L (zC ax) i.dk)=[]/\True) (∃(c:oO),2=zC ax/\c.dk=i.dk/\c.b.gm=i.b.gm/\c.b.gn=i.b.gn/\c.b.fv=i.b.fv/\c.b.fw=i.b.fw/\aq du 3 zF c.b.a=aq du 3 zF i.b.a/\aa zB c.b.fc=aa zB i.b.fc/\aa zB c.b.dw=aa zB i.b.dw/\iK c.b.at_=iK i.b.at_/\iE c.b.spare=iE i.b.spare/\(qH c)/\∀(d:Unit),True->dq (!kT 2 (c.b.eg 2) c.dk) (∃(e:Unit),i.b.gm=c.b.gm/\i.b.gn=c.b.gn/\i.b.fv=c.b.fv/\i.b.fw=c.b.fw/\aq du 3 zF i.b.a=aq du 3 zF c.b.a/\aa zB i.b.fc=aa zB c.b.fc/\aa zB i.b.dw=aa zB c.b.dw/\iK i.b.at_=iK c.b.at_/\iE i.b.spare=iE c.b.spare/\aa vI (vg i.L (zC ax) i.dk)=[]/\True) ((fP c)/\∃(e:Int),∃(f:Int),zD (aa zB c.b.dw) (xY c).toNat 0 2=az [dI e,dI f]/\∃(g:Ex),g.s=zC ax/\g.r.dk=e/\g.r.queue=f/\g.b.gm=c.b.gm/\g.b.gn=c.b.gn/\g.b.fv=c.b.fv/\g.b.fw=c.b.fw/\aq du 3 zF g.b.a=aq du 3 zF c.b.a/\aa zB g.b.fc=aa zB c.b.fc/\aa zB g.b.dw=aa zB c.b.dw/\iK g.b.at_=iK c.b.at_/\iE g.b.spare=iE c.b.spare/\g.b.a.pw g.r.queue g.l/\∀(h:Unit),True->∃(j:Unit),yB i.b=yB g.b/\aa vI (vg i.L (zC ax) i.dk)=aa vI g.ox/\True))
def sY {L:List zI} (h:(L.map (·.id)).Nodup) {o:zI} (ho:o∈L):cM L o.id=o:=by
 induction L with
 |nil=>cases ho
 |cons x L ih=>
  rw[jx,zk]at h;rw[cM,MX];rcases mn.1 ho with rfl|ho
  ·rw[lg rfl];rfl
  ·have:x.id≠o.id:=λe=>h.1 (e▸tc (f:=(·.id)) ho)
   rw[ku this];exact ih h.2 ho
def mX {α β:Type} {f g:α->Option β}:∀{l:List α},(∀x∈l,f x=g x)->l.filterMap f=l.filterMap g
 |[],_=>rfl
 |x::l,h=>by rw[List.filterMap_cons,List.filterMap_cons,h x jm,mX λy hy=>h y (kg _ hy)]
def y0o {L:List zI} {id:Int} (h:wZ L id=ay):cM L id=y1q:=by
 rw[cM];have:L.find? (λo=>decide (o.id=id))=ba:=by
  rw[List.find?_eq_none];intro o ho;rw[wZ,KR]at h;exact h o ho
 rw[this];rfl
structure Told (b:dp) (Q:List (List Nat)) (id:Int) (s:Int) (r:xM) (k:Nat):Prop where
 hs:s=1\/s=2
 hr:r∈b.eg s
 hk:k∈xD Q r
 e:kr b.at_ id=az ⟨s,r.dk,k⟩
 ident:(b.a.fa k).id=id
 get:cM (b.flat Q) id=vJ b.a s r.dk k
 has:wZ (b.flat Q) id=ax
def yTm {b:dp} {Q:List (List Nat)} {s:Int} (hs:s=1\/s=2) {r:xM} (hr:r∈b.eg s) {k:Nat} (hk:k∈xD Q r):vJ b.a s r.dk k∈b.flat Q:=
 BC hs (AL.2 ⟨r,hr,tc hk⟩)
def dp.Core.told {b:dp} {Q:List (List Nat)} (c:b.Core Q (-1)) (id:Int):(kr b.at_ id=ba/\wZ (b.flat Q) id=ay)\/∃s r k,Told b Q id s r k:=by
 cases hg:kr b.at_ id with
 |none=>
  have:=Yd hg;rw[c.zx.mem_iff,<- kh]at this;exact .inl ⟨rfl,by simpa using this⟩
 |some x=>
  obtain⟨k,r,hs,hr,hk,hx,AR⟩:=c.Qi (Oo hg);have hm:=yTm hs hr hk;have kf:=sY c.ids hm;have e:(vJ b.a x.side r.dk k).id=id:=AR;rw[e]at kf;exact .inr ⟨x.side,r,k,hs,hr,hk,by rw[hg];exact congrArg az hx,AR,kf,kh.2 (by rw[<- e];exact tc hm)⟩
def Told.only {b:dp} {Q:List (List Nat)} (c:b.Core Q (-1)) {id s:Int} {r:xM} {k:Nat} (h:Told b Q id s r k) {s':Int} (iM:s'=1\/s'=2) {r':xM} (ot:r'∈b.eg s') {j:Nat} (hj:j∈xD Q r'):(b.a.fa j).id=id↔j=k:=by
 constructor
 ·intro e;have h1:=c.ER iM ot hj;have h2:=c.ER h.hs h.hr h.hk;rw[e]at h1;rw[h.ident]at h2;have:=congrArg Place.slot (SG c.keys h1 h2);dsimp only at this;omega
 ·rintro rfl;exact h.ident
def dp.Core.less {b:dp} {Q:List (List Nat)} (c:b.Core Q (-1)) (ht:b.Bk (b.flat Q)) {id s:Int} {r:xM} {k:Nat} (h:Told b Q id s r k) {q:Int} (hq:1<=q/\q<(b.a.fa k).dr):
 (b.a.gl k q).2=0/\({b with a:=(b.a.gl k q).1}:dp).fq (gB (b.flat Q) id q)/\(b.a.gl k q).1.dv.length=250/\(b.a.gl k q).1.np k=((((b.a.gl k q).1.fa k)).pg,ax)/\((b.a.gl k q).1.fa k).id=id:=by
 obtain⟨t1,t2,t3⟩:=c.wf.take (c.get h.hs h.hr) h.hk (q:=q) ⟨hq.1,oM⟩;rw[fb (by omega)]at t3;obtain⟨w,t4,t5⟩:=t3;have DV:∀j,((b.a.gl k q).1.fa j).pg=if j=k then{(b.a.fa k).pg with dr:=(b.a.fa k).dr-q}else(b.a.fa j).pg:=by
  intro j;split
  ·rename_i e;rw[e,t4];rfl
  ·rename_i e;exact(t2 j e).1
 have AR:∀j,((b.a.gl k q).1.fa j).id=(b.a.fa j).id:=by
  intro j;have:=congrArg DN.id (DV j);split at this
  ·rename_i e;rw[e]at this ⊢;exact this
  ·exact this
 have ry:({b with a:=(b.a.gl k q).1}:dp).flat Q=gB (b.flat Q) id q:=by
  have side:∀s',s'=1\/s'=2->({b with a:=(b.a.gl k q).1}:dp).iu Q s'=gB (b.iu Q s') id q:=by
   intro s' iM;rw[gB,dp.iu,dp.iu,List.filterMap_flatMap];refine xE λr' ot=> ?_
   rw[dp.ia,dp.ia,List.filterMap_map];have:(xD Q r').filterMap (λj=>az (vJ (b.a.gl k q).1 s' r'.dk j))=(xD Q r').map (vJ (b.a.gl k q).1 s' r'.dk):=by rw[<- List.filterMap_eq_map];rfl
   refine this.symm.trans (mX λj hj=> ?_);simp only[cn,vJ,yNm,DV];have Vf:=h.only c iM ot hj;by_cases e:j=k
   ·subst e;rw[fh rfl];refine((fh (show(b.a.fa j).pg.id=id from h.ident)).trans (fb λe=> ?_)).symm;have e:(b.a.fa j).dr=q:=e;omega
   ·rw[fb e];exact(fb (λe2=>e (Vf.1 e2))).symm
  rw[dp.flat,side 1 (.inl rfl),side 2 (.inr rfl),dp.flat,gB,gB,gB,List.filterMap_append]
 have hu:(b.a.gl k q).1.iz k=ax:=by
  obtain⟨rn,⟨_,_,h2⟩,h3⟩:=w.toyo.mem (c.get h.hs h.hr) h.hk;have gv:=w.len;simp only[du.iz,lr,ud,oF];exact⟨oM,oM,h2.used⟩
 refine⟨t1,⟨Q,c.flag w AR,⟨λo ho=> ?_,λs' iM hh=> ?_⟩,ry.symm⟩,w.len,by rw[du.np,fh hu,oF],by rw[AR,h.ident]⟩
 ·obtain⟨o',oG,e⟩:=M1.1 ho;have:=ht.fl o' oG;split at e
  ·split at e
   ·cases e
   ·cases e;exact this
  ·cases e;exact this
 ·obtain⟨o,ho,o1,o2⟩:=ht.th s' iM hh;by_cases e:o.id=id
  ·refine⟨{o with dr:=o.dr-q},M1.2 ⟨o,ho,?_⟩,o1,o2⟩;have hg:=sY c.ids ho;rw[e,h.get]at hg;rw[fh e,fb (λe2=>by
    rw[<- hg]at e2;have:(b.a.fa k).dr=q:=e2;omega)]
  ·exact⟨o,M1.2 ⟨o,ho,fb e⟩,o1,o2⟩
def z9u:∀{l:List (Int×Place)} {k:Int},(l.map (·.1)).Nodup->pJ k l=l.filter λx=> !decide (x.1=k)
 |[],k,_=>rfl
 |(a,b)::l,k,h=>by
  rw[jx,zk]at h;rw[pJ];by_cases e:k=a
  ·subst e;rw[fh rfl,OV (by simp)];symm;rw[OS];intro x hx;have:x.1≠k:=λe=>h.1 (e▸tc (f:=(·.1)) hx)
   simp[this]
  ·rw[fb e,OW (by simp[Ne.symm e]),z9u h.2]
def zFu {l:List Nat} (h:l.Nodup) (k:Nat):l.erase k=l.filter λj=> !decide (j=k):=by
 rw[h.erase_eq_filter];refine ag λj _=> ?_
 simp[bne,BEq.beq]
def yGo {s:Int} {l:List xM} (hs:l.Pairwise λr r'=>ki s r.dk r'.dk=ax) {R1 R2:List xM} {r:xM} (hl:l=R1++r::R2):zZ s l r.dk=R1.length:=by
 subst hl;rw[af]at hs;refine pZ (by simp) (λk hk x hx=> ?_) (λx hx=> ?_)
 ·rw[Ec hk]at hx;exact hs.2.2 x (lq hx) r jm
 ·rw[B7 (lk _),I0]at hx;cases hx;exact MA _ _
def yLw (b:dp) (id:Int) {s:Int} (hs:s=1\/s=2):(b.j' s id).a=b.a/\(b.j' s id).fc=b.fc/\(b.j' s id).dw=b.dw/\(b.j' s id).spare=b.spare/\∀s',s'=1\/s'=2->(b.j' s id).iZ s'=b.iZ s'/\(b.j' s id).mq s'=if s'=s/\b.iZ s=id then ay else b.mq s':=by
 rw[dp.j'];by_cases hc:b.mq s=ax/\b.iZ s=id
 ·rw[fh hc];rcases hs with rfl|rfl
  ·exact(nn (λs' h=>by rcases h with rfl|rfl;exact⟨rfl,(fh ⟨rfl,hc.2⟩).symm⟩;exact⟨rfl,(fb (λe=>absurd e.1 Z8)).symm⟩))
  ·exact(nn (λs' h=>by rcases h with rfl|rfl;exact⟨rfl,(fb (λe=>absurd e.1 Z8)).symm⟩;exact⟨rfl,(fh ⟨rfl,hc.2⟩).symm⟩))
 ·rw[fb hc];refine(nn (λs' h=>⟨rfl,?_⟩));split
  ·rename_i e;rw[e.1];cases hh:b.mq s with
   |false=>rfl
   |true=>exact absurd ⟨hh,e.2⟩ hc
  ·rfl
def dp.Core.close {b:dp} {Q:List (List Nat)} {s:Int} (hs:s=1\/s=2) {r:xM} {R1 R2:List xM} (hr:b.eg s=R1++r::R2) (c:b.Core Q r.queue) (he:xD Q r=[]) {b':dp} (hb:b'=({b with spare:=b.spare++[r.queue]}:dp).qx s (R1++R2)):
 b'.Core Q (-1)/\b'.flat Q=b.flat Q:=by
 obtain⟨g1,g2⟩:=zOb ({b with spare:=b.spare++[r.queue]}:dp) hs (R1++R2);rw[<- hb]at g1 g2;have ha:b'.a=b.a:=by rw[hb];rcases hs with rfl|rfl<;>rfl
 have tr:b'.at_=b.at_:=by rw[hb];rcases hs with rfl|rfl<;>rfl
 have tq:b'.spare=b.spare++[r.queue]:=by rw[hb];rcases hs with rfl|rfl<;>rfl
 have EV:b'.qs.Perm b.qs:=by
  rw[hb];rcases hs with rfl|rfl
  ·have hr:b.fc=R1++r::R2:=hr;show((R1++R2).map (·.queue)++b.dw.map (·.queue)++(b.spare++[r.queue])).Perm (b.fc.map (·.queue)++b.dw.map (·.queue)++b.spare)
   rw[hr,<- jh];refine(O0 _ _).trans ?_;simp only[jr,jx,jh,uc];exact mo.symm
  ·have hr:b.dw=R1++r::R2:=hr;show(b.fc.map (·.queue)++(R1++R2).map (·.queue)++(b.spare++[r.queue])).Perm (b.fc.map (·.queue)++b.dw.map (·.queue)++b.spare)
   rw[hr,<- jh];refine(O0 _ _).trans ?_;simp only[jr,jx,jh,uc];refine .trans ?_ (cp _ mo.symm);exact mo.symm
 have oW:∀s',s'=1\/s'=2->b'.iu Q s'=b.iu Q s':=by
  intro s' iM;have ho:∀x,b'.ia Q s' x=b.ia Q s' x:=λx=>by rw[dp.ia,dp.ia,ha]
  rw[dp.iu,dp.iu];by_cases e:s'=s
  ·subst e;rw[g1,hr,yq,yq,wg,xE (λx _=>ho x),xE (l:=R2) (λx _=>ho x)];rw[show b.ia Q s' r=[]by rw[dp.ia,he];rfl,xj]
  ·rw[g2 s' e iM];exact xE λx _=>ho x
 have zd:∀s',s'=1\/s'=2->b'.ml Q s'=b.ml Q s':=by
  intro s' iM;rw[dp.ml,dp.ml,ha];by_cases e:s'=s
  ·subst e;rw[g1,hr,yq,yq,wg,he,CG,xj]
  ·rw[g2 s' e iM];rfl
 have ry:b'.flat Q=b.flat Q:=by rw[dp.flat,dp.flat,oW 1 (.inl rfl),oW 2 (.inr rfl)]
 have qt:=EV.nodup_iff.2 c.nd;have aaL:r.queue∉(R1++R2).map (·.queue):=by
  intro hm;have h1:r.queue∈(b'.eg s).map (·.queue):=by rw[g1];exact hm
  rw[dp.qs]at qt;have h2:=(Af.1 qt).2.2 r.queue (by
   rcases hs with rfl|rfl
   ·exact yg _ h1
   ·exact zn _ h1) r.queue (by rw[tq];simp)
  exact h2 rfl
 refine⟨⟨by rw[ha];exact c.wf,λs' iM=> ?_,λq hq=>c.uf q (EV.mem_iff.1 hq),qt,by rw[EV.length_eq];exact c.ql,λs' iM x hx _=> ?_,λq hq=> ?_,by rw[tr,zd 1 (.inl rfl),zd 2 (.inr rfl)];exact c.at_,by rw[ry];exact c.ids,c.qb⟩,ry⟩
 ·by_cases e:s'=s
  ·subst e;have:=c.xa s' iM;rw[hr]at this;rw[g1];exact this.sublist (List.Sublist.append_left (List.sublist_cons_self _ _) _)
  ·rw[g2 s' e iM];exact c.xa s' iM
 ·by_cases e:s'=s
  ·subst e;rw[g1]at hx;refine c.ne s' iM x (by rw[hr];rcases pz.1 hx with h|h;exact yg _ h;exact zn _ (kg _ h)) λe2=>aaL (e2▸tc (f:=(·.queue)) hx)
  ·rw[g2 s' e iM]at hx;refine c.ne s' iM x hx λe2=> ?_
   have h1:r.queue∈(b'.eg s').map (·.queue):=by rw[g2 s' e iM,<- e2];exact tc (f:=(·.queue)) hx
   rw[dp.qs]at qt;exact(Af.1 qt).2.2 r.queue (by
    rcases iM with rfl|rfl
    ·exact yg _ h1
    ·exact zn _ h1) r.queue (by rw[tq];simp) rfl
 ·rw[tq]at hq;rcases pz.1 hq with hq|hq
  ·exact c.sp q hq
  ·rw[vm.1 hq];exact he
def zTc {L:List zI} (h:(L.map (·.id)).Nodup) {id:Int} (hh:wZ L id=ax):gB L id (cM L id).dr=L.filter λo=> !decide (o.id=id):=by
 rw[gB,<- List.filterMap_eq_filter];refine mX λo ho=> ?_
 by_cases e:o.id=id
 ·have hg:=sY h ho;rw[e]at hg;rw[fh e,fh (by rw[hg])];simp[Option.guard,e]
 ·rw[fb e];simp[Option.guard,e]
def dp.Core.gone {b:dp} {Q:List (List Nat)} (c:b.Core Q (-1)) (ht:b.Bk (b.flat Q)) {id s:Int} {r:xM} {k:Nat} (h:Told b Q id s r k) {q:Int} (hq:1<=q/\q=(b.a.fa k).dr):
 (b.a.gl k q).2=0/\(({b with a:=(b.a.gl k q).1}:dp).iL s id r.dk).fq (gB (b.flat Q) id q)/\(b.a.gl k q).1.dv.length=250/\(b.a.gl k q).1.dz.length=b.a.dz.length/\((b.a.gl k q).1.np k).2=ay/\zZ s (b.eg s) r.dk<(b.eg s).length:=by
 obtain⟨t1,t2,t3⟩:=c.wf.take (c.get h.hs h.hr) h.hk (q:=q) ⟨hq.1,oM⟩;rw[fh hq.2.symm]at t3;obtain⟨w,t4,t5⟩:=t3;generalize hA:(b.a.gl k q).1=a1 at*;have kf:=c.get h.hs h.hr;have EZ:=(jv.1 kf).1;have Nq:=c.uf _ (gD h.hs h.hr);generalize PR:Q.set r.queue.toNat ((xD Q r).erase k)=Q' at*;have Js:Q'.length=Q.length:=by rw[<- PR,qv]
 have qt:(xD Q r).Nodup:=c.wf.nd _ _ kf;have EW:∀s' (r':xM),(s'=1\/s'=2)->r'∈b.eg s'->xD Q' r'=(xD Q r').erase k:=by
  intro s' r' iM ot;by_cases e:r'.queue=r.queue
  ·have e1:xD Q r'=xD Q r:=by rw[xD,xD,e]
   rw[e1,xD,e,<- PR];exact zT (fW EZ)
  ·have h2:xD Q' r'=xD Q r':=by
    have:=c.uf _ (gD iM ot);rw[xD,xD,nk,nk,<- PR,uG (by omega)]
   rw[h2];symm;refine List.erase_of_not_mem λhk=> ?_
   have:=c.wf.toyo.one (c.get iM ot) kf hk h.hk;have:=c.uf _ (gD iM ot);omega
 have hQo:∀q:Int,0<=q->q≠r.queue->Q'.getD q.toNat []=Q.getD q.toNat []:=by
  intro q h0 ji;rw[<- PR,nk,uG (by omega),nk]
 obtain⟨u1,u2,u3,u4,u5⟩:=yLw ({b with a:=a1}:dp) id h.hs;obtain⟨b1,qe⟩:∃b1:dp,b1={({b with a:=a1}:dp).j' s id with at_:=pJ id b.at_}:=⟨_,rfl⟩
 have v1:b1.a=a1:=by rw[qe];exact u1
 have v2:b1.fc=b.fc:=by rw[qe];exact u2
 have v3:b1.dw=b.dw:=by rw[qe];exact u3
 have v4:b1.spare=b.spare:=by rw[qe];exact u4
 have v5:b1.at_=pJ id b.at_:=by rw[qe]
 have v6:∀s',s'=1\/s'=2->b1.iZ s'=b.iZ s'/\b1.mq s'=if s'=s/\b.iZ s=id then ay else b.mq s':=by
  intro s' iM;rw[qe];exact u5 s' iM
 have vr:∀s',b1.eg s'=b.eg s':=by intro s';rw[dp.eg,dp.eg,v2,v3]
 have vq:b1.qs=b.qs:=by rw[dp.qs,dp.qs,v2,v3,v4]
 have Ax:∀s',s'=1\/s'=2->b1.iu Q' s'=(b.iu Q s').filter (λo=> !decide (o.id=id))/\b1.ml Q' s'=(b.ml Q s').filter λx=> !decide (x.1=id):=by
  intro s' iM;rw[dp.iu,dp.iu,dp.ml,dp.ml,vr,List.filter_flatMap,List.filter_flatMap];have key:∀r'∈b.eg s',∀j∈xD Q r',((b.a.fa j).id=id↔j=k)/\(j≠k->vJ a1 s' r'.dk j=vJ b.a s' r'.dk j/\vY a1 s' r'.dk j=vY b.a s' r'.dk j):=by
   intro r' ot j hj;refine⟨h.only c iM ot hj,λe=> ?_⟩;have:=(t2 j e).1;refine⟨by rw[vJ,vJ,this],?_⟩;have:=congrArg DN.id this;rw[vY,vY];exact congrArg (λi=>(i,(⟨s',r'.dk,j⟩:Place))) this
  refine⟨xE λr' ot=> ?_,xE λr' ot=> ?_⟩
  ·rw[dp.ia,dp.ia,EW s' r' iM ot,zFu (c.wf.nd _ _ (c.get iM ot)),List.filter_map,v1];have e1:(xD Q r').filter ((λo:zI=> !decide (o.id=id))∘vJ b.a s' r'.dk)=(xD Q r').filter λj=> !decide (j=k):=by
    refine ag λj hj=> ?_
    show(!decide ((b.a.fa j).id=id))=_;rw[decide_eq_decide.2 (key r' ot j hj).1]
   rw[e1];refine uv λj hj=> ?_
   rw[uu]at hj;exact((key r' ot j hj.1).2 (by simpa using hj.2)).1
  ·rw[EW s' r' iM ot,zFu (c.wf.nd _ _ (c.get iM ot)),List.filter_map,v1];have e1:(xD Q r').filter ((λx:Int×Place=> !decide (x.1=id))∘vY b.a s' r'.dk)=(xD Q r').filter λj=> !decide (j=k):=by
    refine ag λj hj=> ?_
    show(!decide ((b.a.fa j).id=id))=_;rw[decide_eq_decide.2 (key r' ot j hj).1]
   rw[e1];refine uv λj hj=> ?_
   rw[uu]at hj;exact((key r' ot j hj.1).2 (by simpa using hj.2)).2
 have ry:b1.flat Q'=(b.flat Q).filter λo=> !decide (o.id=id):=by
  rw[dp.flat,(Ax 1 (.inl rfl)).1,(Ax 2 (.inr rfl)).1,dp.flat,Hy]
 have tr:b1.at_.Perm (b1.ml Q' 1++b1.ml Q' 2):=by
  rw[v5,z9u c.keys,(Ax 1 (.inl rfl)).2,(Ax 2 (.inr rfl)).2,<- Hy];exact c.at_.filter _
 have hold:∀s' (r':xM),(s'=1\/s'=2)->r'∈b.eg s'->xD Q r'≠[]:=λs' r' iM ot=>c.ne s' iM r' ot λe=>by
  have:=c.uf _ (gD iM ot);omega
 have c1:b1.Core Q' r.queue:=by
  refine⟨by rw[v1];exact w,λs' iM=>by rw[vr];exact c.xa s' iM,by rw[vq,Js];exact c.uf,by rw[vq];exact c.nd,by rw[vq,Js];exact c.ql,λs' iM r' ot ji=> ?_,λq hq=> ?_,tr,?_,by rw[Js];exact c.qb⟩
  ·rw[vr]at ot;have e:=hQo r'.queue (c.uf _ (gD iM ot)).1 ji;rw[xD,e];exact hold s' r' iM ot
  ·rw[v4]at hq;have Nr:q∈b.qs:=zn _ hq;rw[hQo q (c.uf q Nr).1 λe=> ?_]
   ·exact c.sp q hq
   ·have GZ:=c.nd;rw[dp.qs]at GZ;refine(Af.1 GZ).2.2 r.queue ?_ q hq e.symm;rcases h.hs with rfl|rfl
    ·exact yg _ (tc (f:=(·.queue)) h.hr)
    ·exact zn _ (tc (f:=(·.queue)) h.hr)
  ·rw[ry];exact c.ids.sublist (List.Sublist.map _ OR)
 have htk:gB (b.flat Q) id q=b1.flat Q':=by
  rw[ry,<- zTc c.ids h.has,h.get,hq.2];rfl
 have hm1:∀o,o∈b1.flat Q'↔o∈b.flat Q/\o.id≠id:=by
  intro o;rw[ry,uu];simp
 have ht1:∀b2:dp,(∀x,b2.mq x=b1.mq x/\b2.iZ x=b1.iZ x)->b2.Bk (b1.flat Q'):=by
  intro b2 nh;refine⟨λo ho=> ?_,λs' iM hh=> ?_⟩
  ·rw[(nh _).1,(nh _).2];obtain⟨ho,ji⟩:=(hm1 o).1 ho;have iM:=(rB ho).1;rw[(v6 _ iM).1,(v6 _ iM).2,ht.fl o ho];split
   ·rename_i e;rw[e.1,e.2,ku ji,I1,I1]
   ·rfl
  ·rw[(nh _).1,(v6 s' iM).2]at hh;rw[(nh _).2,(v6 s' iM).1];split at hh
   ·cases hh
   ·rename_i e;obtain⟨o,ho,o1,o2⟩:=ht.th s' iM hh;refine⟨o,(hm1 o).2 ⟨ho,λe2=>e ?_⟩,o1,o2⟩;have hg:=sY c.ids ho;rw[e2,h.get]at hg;have Ei:s'=s:=by rw[<- o1,<- hg];rfl
    exact⟨Ei,by rw[<- Ei,<- o2,e2]⟩
 obtain⟨R1,R2,oX⟩:=List.append_of_mem h.hr;have HM:=yGo (c.xa s h.hs) oX;have pk:(b.eg s).getD (zZ s (b.eg s) r.dk) ⟨0,0⟩=r:=by
  rw[HM,oX];refine zT ?_;rw[B7 (lk _),I0];rfl
 have Al:zZ s (b.eg s) r.dk<(b.eg s).length:=by rw[HM,oX];simp
 have hQr:Q'[r.queue.toNat]? =az ((xD Q r).erase k):=by rw[<- PR];exact fW EZ
 have LX:(a1.qc r.queue).count=((xD Q r).erase k).length:=by
  have:=w.q _ _ hQr;have HI:=w.ql;rw[Sw Nq.1 this]
 have er:xD Q' r=(xD Q r).erase k:=zT hQr;have hru:({b with a:=a1}:dp).eg s=b.eg s:=rfl;have Pl:(a1.np k).2=ay:=by
  have:a1.iz k=ay:=by
   have e:a1.fa k=iH:=t4;rw[du.fa]at e;rw[du.iz,oF,e];simp[iH]
  rw[du.np,fb (by rw[this];decide)]
 refine⟨t1,?_,w.len,by rw[w.ql,c.wf.ql,Js],Pl,Al⟩;rw[dp.iL,hru,pk];by_cases hz:(a1.qc r.queue).count=0
 ·rw[fh hz];have he:xD Q' r=[]:=by
   rw[er];refine yh ?_;omega
  obtain⟨k1,k2⟩:=dp.Core.close h.hs (by rw[vr];exact oX) c1 he rfl;have ebk:(({({b with a:=a1}:dp).j' s id with at_:=pJ id b.at_,spare:=b.spare++[r.queue]}:dp).qx s ((b.eg s).take (zZ s (b.eg s) r.dk)++(b.eg s).drop (zZ s (b.eg s) r.dk+1)))=(({b1 with spare:=b1.spare++[r.queue]}:dp).qx s (R1++R2)):=by
   have e1:(b.eg s).take (zZ s (b.eg s) r.dk)++(b.eg s).drop (zZ s (b.eg s) r.dk+1)=R1++R2:=by
    rw[HM,oX,KM];congr 1;rw[KQ,Hz (by omega),Nat.add_sub_cancel_left];rfl
   rw[e1,v4,qe]
  refine⟨Q',?_,?_,?_⟩
  ·exact ebk▸k1
  ·rw[htk];refine ht1 _ λx=> ?_
   show(dp.mq (({({b with a:=a1}:dp).j' s id with at_:=pJ id b.at_,spare:=b.spare++[r.queue]}:dp).qx s ((b.eg s).take (zZ s (b.eg s) r.dk)++(b.eg s).drop (zZ s (b.eg s) r.dk+1))) x=_/\dp.iZ (({({b with a:=a1}:dp).j' s id with at_:=pJ id b.at_,spare:=b.spare++[r.queue]}:dp).qx s ((b.eg s).take (zZ s (b.eg s) r.dk)++(b.eg s).drop (zZ s (b.eg s) r.dk+1))) x=_);rw[ebk];rcases h.hs with rfl|rfl<;>exact⟨rfl,rfl⟩
  ·rw[htk];show _=dp.flat (({({b with a:=a1}:dp).j' s id with at_:=pJ id b.at_,spare:=b.spare++[r.queue]}:dp).qx s ((b.eg s).take (zZ s (b.eg s) r.dk)++(b.eg s).drop (zZ s (b.eg s) r.dk+1))) Q';rw[ebk];exact k2.symm
 ·rw[fb hz];have c2:b1.Core Q' (-1):=⟨c1.wf,c1.xa,c1.uf,c1.nd,c1.ql,λs' iM r' ot _=>by
   by_cases e:r'.queue=r.queue
   ·rw[xD,e];intro e2;rw[xD]at er;rw[er]at e2;rw[LX,e2]at hz;exact hz rfl
   ·exact c1.ne s' iM r' ot e,c1.sp,c1.at_,c1.ids,c1.qb⟩
  have hh:({({b with a:=a1}:dp).j' s id with at_:=pJ id b.at_}:dp)=b1:=qe.symm;show dp.fq {({b with a:=a1}:dp).j' s id with at_:=pJ id b.at_} _;rw[hh,htk];exact⟨Q',c2,ht1 b1 λ_=>⟨rfl,rfl⟩,rfl⟩
def tX (k:Int):∀l,BI (cg bo k) (iK l)=iK (pJ k l)
 |[]=>rfl
 |(a,b)::l=>by
  have ih:=tX k l;show(bif (wj .i64 .i64 && decide (k=a))then iK l else _::BI _ (iK l))=_;rw[ih,pJ];by_cases h:k=a
  ·subst h;simp[wj]
  ·simp[h,iK]
def yAp:R8.ok Tryz.prog 246:=
 Iy mixed Tryz.func246 rfl (by kernel_rfl) (by kernel_rfl) (by kernel_rfl) (by kernel_rfl) Yp rfl Z8 (λs sn sk i j w R=>by kernel_rfl)
def dup {X:Prop} {n:Int} (h:X):X/\n=n/\True/\X:=⟨h,rfl,trivial,h⟩
def dp.Core.small {b:dp} {Q:List (List Nat)} (c:b.Core Q (-1)):b.small:=by
 have hq:=c.qb;have h1:=c.ql;have h2:=c.wf.ql;have h3:=c.wf.len;rw[dp.qs,iv,iv,im,im]at h1;exact⟨⟨oM,oM⟩,oM,oM,oM⟩
def yYp (i:C3) (h:F0.dq i):yHa i:=by
 obtain⟨ug,hn⟩:i.ok 1:=h;obtain⟨⟨ha1,ha2⟩,qe,nh,tq⟩:=id ug;have hn:zZ 1 i.b.fc i.dk<i.b.fc.length:=hn;obtain⟨r,hr⟩:=z6 (l:=i.b.fc) hn;have pk:((i.b.eg 1).getD (zZ 1 (i.b.eg 1) i.dk) ⟨0,0⟩)=r:=zT hr;have hw:∀k:Int,bo.wrap ((zZ 1 (i.b.eg 1) i.dk:Int)+1)=((zZ 1 (i.b.eg 1) i.dk+1:Nat):Int):=λ_=>by
  have:=Tm 1 i.dk (i.b.eg 1);have hl:(i.b.eg 1).length<=1000000:=by show i.b.fc.length<=_;omega
  rw[iA (by omega)];rfl
 have DI:((zZ 1 (i.b.eg 1) i.dk:Nat):Int)<((aa zB i.b.fc).length:Int):=by
  rw[im];show((zZ 1 i.b.fc i.dk:Nat):Int)<_;omega
 unfold yHa XN XF fU uQ qH xX xC dI;refine⟨wF _ _,Cv.dq.mk (λc1=>Cv.dq.mk (λc2=> ?_) (λc2=> ?_)) (λc1=> ?_)⟩
 ·have c2:i.b.gm=i.id:=by simpa using c2
  have hu:i.b.j' 1 i.id={i.b with fv:=ay}:=by rw[dp.j',fh ⟨c1,c2⟩];rfl
  refine⟨⟨{i.b with fv:=ay,at_:=pJ i.id i.b.at_},i.dk⟩,gr ⟨rfl,(tX _ _).symm,rfl,ug,λ_ _=>⟨⟨oM,DI⟩,r.queue,ju hr (by simp[zB]) rfl,⟨i.b.a,r.queue⟩,rfl,rfl,trivial,λ_ _=>Cv.dq.mk (λe=>⟨by simp only[y4];omega,⟨i.b.fc.map zB,zZ 1 (i.b.eg 1) i.dk,zZ 1 (i.b.eg 1) i.dk+1⟩,rfl,(hw 0).symm,rfl,⟨KO _,by rw[im];exact hn⟩,λ_ _=>⟨rfl,(),?_⟩⟩) (λe=>⟨(),?_⟩)⟩⟩⟩
  ·have e:(i.b.a.qc r.queue).count=0:=by simpa using e
   rw[dp.iL,pk,fh e,hu];refine(yj ⟨rfl,?_,rfl,?_,trivial⟩)
   ·show aa zB (i.b.fc.take _++i.b.fc.drop _)=_;rw[jr,EK,Ht]
   ·show iE (i.b.spare++[r.queue])=_;simp[iE]
  ·have e:¬(i.b.a.qc r.queue).count=0:=by simpa using e
   rw[dp.iL,pk,fb e,hu];exact(mh (iT trivial))
 ·have c2:¬i.b.gm=i.id:=by simpa using c2
  have hu:i.b.j' 1 i.id={i.b with fv:=i.b.fv}:=by rw[dp.j',fb (λe=>c2 e.2)]
  refine⟨⟨{i.b with fv:=i.b.fv,at_:=pJ i.id i.b.at_},i.dk⟩,gr ⟨rfl,(tX _ _).symm,rfl,ug,λ_ _=>⟨⟨oM,DI⟩,r.queue,ju hr (by simp[zB]) rfl,⟨i.b.a,r.queue⟩,rfl,rfl,trivial,λ_ _=>Cv.dq.mk (λe=>⟨by simp only[y4];omega,⟨i.b.fc.map zB,zZ 1 (i.b.eg 1) i.dk,zZ 1 (i.b.eg 1) i.dk+1⟩,rfl,(hw 0).symm,rfl,⟨KO _,by rw[im];exact hn⟩,λ_ _=>⟨rfl,(),?_⟩⟩) (λe=>⟨(),?_⟩)⟩⟩⟩
  ·have e:(i.b.a.qc r.queue).count=0:=by simpa using e
   rw[dp.iL,pk,fh e,hu];refine(yj ⟨rfl,?_,rfl,?_,trivial⟩)
   ·show aa zB (i.b.fc.take _++i.b.fc.drop _)=_;rw[jr,EK,Ht]
   ·show iE (i.b.spare++[r.queue])=_;simp[iE]
  ·have e:¬(i.b.a.qc r.queue).count=0:=by simpa using e
   rw[dp.iL,pk,fb e,hu];exact(mh (iT trivial))
 ·have hu:i.b.j' 1 i.id={i.b with fv:=i.b.fv}:=by
   rw[dp.j',fb];rintro⟨e,_⟩;exact absurd (show i.b.fv=ax from e) (by rw[c1];decide)
  refine⟨⟨{i.b with fv:=i.b.fv,at_:=pJ i.id i.b.at_},i.dk⟩,gr ⟨rfl,(tX _ _).symm,rfl,ug,λ_ _=>⟨⟨oM,DI⟩,r.queue,ju hr (by simp[zB]) rfl,⟨i.b.a,r.queue⟩,rfl,rfl,trivial,λ_ _=>Cv.dq.mk (λe=>⟨by simp only[y4];omega,⟨i.b.fc.map zB,zZ 1 (i.b.eg 1) i.dk,zZ 1 (i.b.eg 1) i.dk+1⟩,rfl,(hw 0).symm,rfl,⟨KO _,by rw[im];exact hn⟩,λ_ _=>⟨rfl,(),?_⟩⟩) (λe=>⟨(),?_⟩)⟩⟩⟩
  ·have e:(i.b.a.qc r.queue).count=0:=by simpa using e
   rw[dp.iL,pk,fh e,hu];refine(yj ⟨rfl,?_,rfl,?_,trivial⟩)
   ·show aa zB (i.b.fc.take _++i.b.fc.drop _)=_;rw[jr,EK,Ht]
   ·show iE (i.b.spare++[r.queue])=_;simp[iE]
  ·have e:¬(i.b.a.qc r.queue).count=0:=by simpa using e
   rw[dp.iL,pk,fb e,hu];exact(mh (iT trivial))
def yHw:F0.ok Tryz.prog 235:=ib mixed (dx Wn (dx rO (dx yAp fj))) 0 (λ_=>[]) (λ_=>[]) [] Tryz.func235 yYp
def yZv (i:C3) (h:FZ.dq i):yMs i:=by
 obtain⟨ug,hn⟩:i.ok 2:=h;obtain⟨⟨ha1,ha2⟩,qe,nh,tq⟩:=id ug;have hn:zZ 2 i.b.dw i.dk<i.b.dw.length:=hn;obtain⟨r,hr⟩:=z6 (l:=i.b.dw) hn;have pk:((i.b.eg 2).getD (zZ 2 (i.b.eg 2) i.dk) ⟨0,0⟩)=r:=zT hr;have hw:∀k:Int,bo.wrap ((zZ 2 (i.b.eg 2) i.dk:Int)+1)=((zZ 2 (i.b.eg 2) i.dk+1:Nat):Int):=λ_=>by
  have:=Tm 2 i.dk (i.b.eg 2);have hl:(i.b.eg 2).length<=1000000:=by show i.b.dw.length<=_;omega
  rw[iA (by omega)];rfl
 have DI:((zZ 2 (i.b.eg 2) i.dk:Nat):Int)<((aa zB i.b.dw).length:Int):=by
  rw[im];show((zZ 2 i.b.dw i.dk:Nat):Int)<_;omega
 unfold yMs YA XO fP uF qH xY xB dI;refine⟨wF _ _,Cv.dq.mk (λc1=>Cv.dq.mk (λc2=> ?_) (λc2=> ?_)) (λc1=> ?_)⟩
 ·have c2:i.b.gn=i.id:=by simpa using c2
  have hu:i.b.j' 2 i.id={i.b with fw:=ay}:=by rw[dp.j',fh ⟨c1,c2⟩];rfl
  refine⟨⟨{i.b with fw:=ay,at_:=pJ i.id i.b.at_},i.dk⟩,gr ⟨rfl,(tX _ _).symm,rfl,ug,λ_ _=>⟨⟨oM,DI⟩,r.queue,ju hr (by simp[zB]) rfl,⟨i.b.a,r.queue⟩,rfl,rfl,trivial,λ_ _=>Cv.dq.mk (λe=>⟨by simp only[y4];omega,⟨i.b.dw.map zB,zZ 2 (i.b.eg 2) i.dk,zZ 2 (i.b.eg 2) i.dk+1⟩,rfl,(hw 0).symm,rfl,⟨KO _,by rw[im];exact hn⟩,λ_ _=>⟨rfl,(),?_⟩⟩) (λe=>⟨(),?_⟩)⟩⟩⟩
  ·have e:(i.b.a.qc r.queue).count=0:=by simpa using e
   rw[dp.iL,pk,fh e,hu];refine(mh ⟨rfl,?_,?_,trivial⟩)
   ·show aa zB (i.b.dw.take _++i.b.dw.drop _)=_;rw[jr,EK,Ht]
   ·show iE (i.b.spare++[r.queue])=_;simp[iE]
  ·have e:¬(i.b.a.qc r.queue).count=0:=by simpa using e
   rw[dp.iL,pk,fb e,hu];exact(mh (iT trivial))
 ·have c2:¬i.b.gn=i.id:=by simpa using c2
  have hu:i.b.j' 2 i.id={i.b with fw:=i.b.fw}:=by rw[dp.j',fb (λe=>c2 e.2)]
  refine⟨⟨{i.b with fw:=i.b.fw,at_:=pJ i.id i.b.at_},i.dk⟩,gr ⟨rfl,(tX _ _).symm,rfl,ug,λ_ _=>⟨⟨oM,DI⟩,r.queue,ju hr (by simp[zB]) rfl,⟨i.b.a,r.queue⟩,rfl,rfl,trivial,λ_ _=>Cv.dq.mk (λe=>⟨by simp only[y4];omega,⟨i.b.dw.map zB,zZ 2 (i.b.eg 2) i.dk,zZ 2 (i.b.eg 2) i.dk+1⟩,rfl,(hw 0).symm,rfl,⟨KO _,by rw[im];exact hn⟩,λ_ _=>⟨rfl,(),?_⟩⟩) (λe=>⟨(),?_⟩)⟩⟩⟩
  ·have e:(i.b.a.qc r.queue).count=0:=by simpa using e
   rw[dp.iL,pk,fh e,hu];refine(mh ⟨rfl,?_,?_,trivial⟩)
   ·show aa zB (i.b.dw.take _++i.b.dw.drop _)=_;rw[jr,EK,Ht]
   ·show iE (i.b.spare++[r.queue])=_;simp[iE]
  ·have e:¬(i.b.a.qc r.queue).count=0:=by simpa using e
   rw[dp.iL,pk,fb e,hu];exact(mh (iT trivial))
 ·have hu:i.b.j' 2 i.id={i.b with fw:=i.b.fw}:=by
   rw[dp.j',fb];rintro⟨e,_⟩;exact absurd (show i.b.fw=ax from e) (by rw[c1];decide)
  refine⟨⟨{i.b with fw:=i.b.fw,at_:=pJ i.id i.b.at_},i.dk⟩,gr ⟨rfl,(tX _ _).symm,rfl,ug,λ_ _=>⟨⟨oM,DI⟩,r.queue,ju hr (by simp[zB]) rfl,⟨i.b.a,r.queue⟩,rfl,rfl,trivial,λ_ _=>Cv.dq.mk (λe=>⟨by simp only[y4];omega,⟨i.b.dw.map zB,zZ 2 (i.b.eg 2) i.dk,zZ 2 (i.b.eg 2) i.dk+1⟩,rfl,(hw 0).symm,rfl,⟨KO _,by rw[im];exact hn⟩,λ_ _=>⟨rfl,(),?_⟩⟩) (λe=>⟨(),?_⟩)⟩⟩⟩
  ·have e:(i.b.a.qc r.queue).count=0:=by simpa using e
   rw[dp.iL,pk,fh e,hu];refine(mh ⟨rfl,?_,?_,trivial⟩)
   ·show aa zB (i.b.dw.take _++i.b.dw.drop _)=_;rw[jr,EK,Ht]
   ·show iE (i.b.spare++[r.queue])=_;simp[iE]
  ·have e:¬(i.b.a.qc r.queue).count=0:=by simpa using e
   rw[dp.iL,pk,fb e,hu];exact(mh (iT trivial))
def yIl:FZ.ok Tryz.prog 235:=ib mixed (dx Wq (dx rO (dx yAp fj))) 0 (λ_=>[]) (λ_=>[]) [] Tryz.func235 yZv
def yPk:R6.ok Tryz.prog 235:=λj=>match j with
 |⟨i,ay⟩=>yHw i
 |⟨i,ax⟩=>yIl i
def yQk {a:du} {k:Nat} {p t:Int} {m:Nat} (h:Sn (a.fa k) m k p t) (hl:k<a.dv.length):a.np k=((a.fa k).pg,ax):=by
 have:a.iz k=ax:=by
  simp only[du.iz,lr,ud,oF];exact⟨oM,oM,h.used⟩
 rw[du.np,fh this,oF]
def zZt {b:dp} {Q:List (List Nat)} (c:b.Core Q (-1)) {id s:Int} {r:xM} {k:Nat} (h:Told b Q id s r k):b.a.np k=((b.a.fa k).pg,ax)/\(b.a.fa k).dr<=1000000/\1<=(b.a.fa k).dr:=by
 obtain⟨h1,⟨p,t,h2⟩,h3⟩:=c.wf.toyo.mem (c.get h.hs h.hr) h.hk;exact⟨yQk h2 (by rw[c.wf.len];exact h1),h2.q2,c.wf.pos _ _ (c.get h.hs h.hr) _ h.hk⟩
def yZf (i:Cj) (h:F5.dq i):yJd i:=by
 obtain⟨Q,c,ht,hL⟩:i.b.fq i.L:=h;unfold yJd sH YR Zf dI;rcases c.told i.id with⟨hg,hn⟩|⟨s,r,k,hT⟩
 ·refine⟨wF _ _,ay,0,0,0,.inr ⟨?_,rfl,rfl⟩,Cv.dq.mk (λ_=> ?_) (λe=>absurd e Z8)⟩
  ·rw[MF,hg];rfl
  ·rw[<- hL]at hn;rw[y0o hn,hn];exact⟨(),gu⟩
 ·refine⟨wF _ _,ax,s,r.dk,k,.inl ⟨?_,rfl⟩,Cv.dq.mk (λe=>absurd e Z8) (λ_=>dup ⟨⟨i.b.a,k⟩,rfl,rfl,by dsimp only;rw[c.wf.len];decide,λ_ _=>⟨(),?_⟩⟩)⟩
  ·rw[MF,hT.e];rfl
  ·have h1:=hT.get;have h2:=hT.has;rw[<- hL]at h1 h2;rw[h1,h2,(zZt c hT).1];exact⟨hT.ident,gu⟩
def z1n:F5.ok Tryz.prog 198:=ib mixed (dx yBb fj) 0 (λ_=>[]) (λ_=>[]) [0] Tryz.func198 yZf
def dp.Core.DP {b:dp} {Q:List (List Nat)} (c:b.Core Q (-1)):b.a.DP:=c.wf.toyo.ok
def y5a (i:Cj) (h:J6.dq i):yVm i:=by
 have hR:i.b.fq i.L:=h;obtain⟨Q,c,ht,hL⟩:=id hR;unfold yVm Wo WH vQ TN sH dI;rcases c.told i.id with⟨hg,hn⟩|⟨s,r,k,hT⟩
 ·refine⟨wF _ _,ay,0,0,0,.inr ⟨?_,rfl,rfl⟩,Cv.dq.mk (λ_=> ?_) (λe=>absurd e (by simp))⟩
  ·rw[MF,hg];rfl
  ·rw[<- hL]at hn;rw[qA,fh hn];exact⟨i.b,oJ (iT hR)⟩
 have hg:=hT.get;have hh:=hT.has;rw[<- hL]at hg hh;obtain⟨Ji,rm,rl⟩:=zZt c hT;have Nr:(cM i.L i.id).dr=(i.b.a.fa k).dr:=by rw[hg];rfl
 refine⟨wF _ _,ax,s,r.dk,k,.inl ⟨?_,rfl⟩,Cv.dq.mk (λe=>absurd e (by simp)) (λ_=>⟨⟨i.b.a,k,i.dr⟩,rfl,rfl,rfl,c.DP,λ_ _=> ?_⟩)⟩
 ·rw[MF,hT.e];rfl
 dsimp only;have hu:i.b.a.iz k=ax:=by
  cases hu:i.b.a.iz k with
  |true=>rfl
  |false=>rw[du.np,fb (by rw[hu];decide)]at Ji;exact absurd (congrArg Prod.snd Ji) (by simp)
 by_cases hb:i.dr<1\/(i.b.a.fa k).dr<i.dr
 ·have ht:i.b.a.gl k i.dr=(i.b.a,24):=by rw[du.gl,fb (by rw[hu];decide),oF,fh hb]
  rw[ht];refine Cv.dq.mk (λ_=> ?_) (λe=>absurd e (by simp));rw[qA,fb (by rw[hh];decide),fh (by rw[Nr];exact hb)];exact⟨i.b,oJ (iT hR)⟩
 have Al:qA i.L i.id i.dr=(gB i.L i.id i.dr,0):=by rw[qA,fb (by rw[hh];decide),fb (by rw[Nr];exact hb)]
 by_cases hf:i.dr=(i.b.a.fa k).dr
 ·obtain⟨g1,g2,g3,g4,g5,g6⟩:=c.gone (by rw[<- hL];exact ht) hT (q:=i.dr) ⟨oM,hf⟩;rw[<- hL]at g2;have ug:=c.small;rw[g1];refine Cv.dq.mk (λe=>absurd e (by simp)) (λ_=>dup ⟨⟨(i.b.a.gl k i.dr).1,k⟩,rfl,rfl,by dsimp only;rw[g3];decide,λ_ _=> ?_⟩);dsimp only;rw[g5];refine Cv.dq.mk (λ_=> ?_) (λe=>absurd e (by simp));rcases hT.hs with rfl|rfl
  ·refine⟨⟨⟨{i.b with a:=(i.b.a.gl k i.dr).1},i.id,r.dk,k⟩,ay⟩,gr (nn ⟨rfl,⟨⟨⟨by dsimp only;rw[g3];decide,by dsimp only;rw[g4];exact ug.1.2⟩,ug.2⟩,g6⟩,λ_ _=> ?_⟩)⟩;refine⟨({i.b with a:=(i.b.a.gl k i.dr).1}:dp).iL 1 i.id r.dk,by rw[Al],mh (iT (by rw[Al];exact g2))⟩
  ·refine⟨⟨⟨{i.b with a:=(i.b.a.gl k i.dr).1},i.id,r.dk,k⟩,ax⟩,gr (nn ⟨rfl,⟨⟨⟨by dsimp only;rw[g3];decide,by dsimp only;rw[g4];exact ug.1.2⟩,ug.2⟩,g6⟩,λ_ _=> ?_⟩)⟩;refine⟨({i.b with a:=(i.b.a.gl k i.dr).1}:dp).iL 2 i.id r.dk,by rw[Al],mh (iT (by rw[Al];exact g2))⟩
 ·obtain⟨g1,g2,g3,g4,g5⟩:=c.less (by rw[<- hL];exact ht) hT (q:=i.dr) oM;rw[<- hL]at g2;rw[g1];refine Cv.dq.mk (λe=>absurd e (by simp)) (λ_=>dup ⟨⟨(i.b.a.gl k i.dr).1,k⟩,rfl,rfl,by dsimp only;rw[g3];decide,λ_ _=> ?_⟩);dsimp only;rw[g4];refine Cv.dq.mk (λe=>absurd e (by simp)) (λ_=>Cv.dq.mk (λe=> ?_) (λ_=> ?_))
  ·have e:¬((i.b.a.gl k i.dr).1.fa k).pg.id=i.id:=by simpa using e
   exact absurd g5 e
  ·exact⟨{i.b with a:=(i.b.a.gl k i.dr).1},by rw[Al],mh (iT (by rw[Al];exact g2))⟩
def yQm:J6.ok Tryz.prog 222:=ib mixed (dx yNg (dx yBb (dx yPk fj))) 0 (λ_=>[]) (λ_=>[]) [0] Tryz.func222 y5a
def Wh (A B:List zI) (s p:Int):vg (A++B) s p=vg A s p++vg B s p:=Hy _ _
def Sv {A:List zI} {s p:Int} (h:∀o∈A,o.side=s->o.dk≠p):vg A s p=[]:=by
 rw[vg,UK];intro o ho;by_cases e:o.side=s
 ·simp[h o ho e]
 ·simp[e]
def ySt {A:List zI} {s p:Int} (h:∀o∈A,o.side=s/\o.dk=p):vg A s p=A:=by
 rw[vg,OS];intro o ho;simp[h o ho]
def NU {s x y:Int} (h:ki s x y=ax):x≠y:=by
 rintro rfl;rw[MA]at h;cases h
def dp.Core.Kd {b:dp} {Q:List (List Nat)} (c:b.Core Q (-1)) {s p:Int} (hs:s=1\/s=2) (h:kT s (b.eg s) p=ay):vg (b.flat Q) s p=[]:=by
 have tq:=Y6 (p:=p) (c.xa s hs);rw[fb (by rw[h];decide)]at tq;refine Sv λo ho e=> ?_
 obtain⟨_,r,hr,_,hp⟩:=rB ho;rw[e]at hr;rw[hp];rw[<- BK (zZ s (b.eg s) p) (b.eg s)]at hr;rcases pz.1 hr with hr|hr
 ·exact NU (tq.1 r hr)
 ·exact(NU (tq.2 r hr)).symm
def dp.Core.F' {b:dp} {Q:List (List Nat)} (c:b.Core Q (-1)) {s p:Int} (hs:s=1\/s=2) (h:kT s (b.eg s) p=ax):∃r,(b.eg s)[zZ s (b.eg s) p]? =az r/\r.dk=p/\r∈b.eg s/\vg (b.flat Q) s p=b.ia Q s r:=by
 have tq:=Y6 (p:=p) (c.xa s hs);rw[fh h]at tq;obtain⟨h1,r,hr,hp,h2⟩:=tq;have gv:=(jv.1 hr).1;refine⟨r,hr,hp,lq hr,?_⟩;have oX:b.eg s=(b.eg s).take (zZ s (b.eg s) p)++r::(b.eg s).drop (zZ s (b.eg s) p+1):=by
  conv=>lhs;rw[<- BK (zZ s (b.eg s) p) (b.eg s)]
  rw[DC gv,(jv.1 hr).2]
 have oW:vg (b.iu Q s) s p=b.ia Q s r:=by
  rw[dp.iu,oX,yq,wg,Wh,Wh,Sv,ySt,Sv,oU,xj]
  ·intro o ho _;obtain⟨r',ot,ho⟩:=AL.1 ho;rw[(qL ho).2];exact(NU (h2 r' ot)).symm
  ·intro o ho;rw[<- hp];exact qL ho
  ·intro o ho _;obtain⟨r',ot,ho⟩:=AL.1 ho;rw[(qL ho).2];exact NU (h1 r' ot)
 have FR:∀s',s'≠s->vg (b.iu Q s') s p=[]:=λs' ji=>Sv λo ho e=>absurd ((nG ho).1.symm.trans e) ji
 rw[dp.flat,Wh];rcases hs with rfl|rfl
 ·rw[oW,FR 2 (by decide),oU]
 ·rw[oW,FR 1 (by decide),xj]
def dp.Core.pw {b:dp} {Q:List (List Nat)} (c:b.Core Q (-1)) {s:Int} (hs:s=1\/s=2) {r:xM} (hr:r∈b.eg s):b.a.pw r.queue (xD Q r):=by
 have hg:=c.get hs hr;have Nq:=c.uf _ (gD hs hr);refine⟨by have:=c.wf.toyo.short hg;omega,?_⟩;rw[fh ⟨Nq.1,by rw[c.wf.ql];exact Nq.2⟩,zT (c.wf.q _ _ hg)];exact zVo (c.wf.sg _ _ hg)
def y8t (i:H9) (h:QP.dq i):y2p i:=by
 obtain⟨Q,c,ht,hL⟩:i.b.fq i.L:=h;unfold y2p fU uQ qH xX kA dI;refine⟨1,rfl,trivial,λ_ _=>Cv.dq.mk (λe=>absurd e Z8) λ_=>⟨⟨i.b,i.dk⟩,oJ (iT ⟨rfl,c.small,λ_ _=>Cv.dq.mk (λe=> ?_) (λe=> ?_)⟩)⟩⟩
 ·have e:kT 1 (i.b.eg 1) i.dk=ay:=by simpa using e
  have:=c.Kd (.inl rfl) e;rw[<- hL]at this;refine⟨(),gr ⟨rfl,?_,trivial⟩⟩;show aa vI (vg i.L 1 i.dk)=[];rw[this];rfl
 ·have e:kT 1 (i.b.eg 1) i.dk=ax:=by simpa using e
  obtain⟨r,hr,hp,hm,ha⟩:=c.F' (.inl rfl) e;rw[<- hL]at ha;have gv:=(jv.1 hr).1;refine⟨⟨oM,by rw[im];exact Int.ofNat_lt.2 gv⟩,r.dk,r.queue,ju hr (by simp[zB]) rfl,⟨i.b,1,r,xD Q r⟩,gr (iT ⟨rfl,c.pw (.inl rfl) hm,λ_ _=>⟨(),rfl,?_,trivial⟩⟩)⟩;show aa vI (vg i.L 1 i.dk)=_;rw[ha,Ex.ox,dp.ia,du.fy];simp only[wb];rfl
def yYl:QP.ok Tryz.prog 237:=ib mixed (dx IN (dx Wn (dx zVj fj))) 0 (λ_=>[]) (λ_=>[]) [0] Tryz.func237 y8t
def y8p (i:H9) (h:QO.dq i):y5m i:=by
 obtain⟨Q,c,ht,hL⟩:i.b.fq i.L:=h;unfold y5m fP uF qH xY kA dI;refine⟨2,rfl,trivial,λ_ _=>Cv.dq.mk (λe=>absurd e Z8) λ_=>⟨⟨i.b,i.dk⟩,oJ (iT ⟨rfl,c.small,λ_ _=>Cv.dq.mk (λe=> ?_) (λe=> ?_)⟩)⟩⟩
 ·have e:kT 2 (i.b.eg 2) i.dk=ay:=by simpa using e
  have:=c.Kd (.inr rfl) e;rw[<- hL]at this;refine⟨(),gr ⟨rfl,?_,trivial⟩⟩;show aa vI (vg i.L 2 i.dk)=[];rw[this];rfl
 ·have e:kT 2 (i.b.eg 2) i.dk=ax:=by simpa using e
  obtain⟨r,hr,hp,hm,ha⟩:=c.F' (.inr rfl) e;rw[<- hL]at ha;have gv:=(jv.1 hr).1;refine⟨⟨oM,by rw[im];exact Int.ofNat_lt.2 gv⟩,r.dk,r.queue,ju hr (by simp[zB]) rfl,⟨i.b,2,r,xD Q r⟩,gr (iT ⟨rfl,c.pw (.inr rfl) hm,λ_ _=>⟨(),rfl,?_,trivial⟩⟩)⟩;show aa vI (vg i.L 2 i.dk)=_;rw[ha,Ex.ox,dp.ia,du.fy];simp only[wb];rfl
def yWa:QO.ok Tryz.prog 237:=ib mixed (dx IN (dx Wq (dx zVj fj))) 0 (λ_=>[]) (λ_=>[]) [0] Tryz.func237 y8p
def y3q:atC.ok Tryz.prog 237:=λj=>match j with
 |⟨b,L,ay,p⟩=>yYl ⟨b,L,ay,p⟩
 |⟨b,L,ax,p⟩=>yWa ⟨b,L,ax,p⟩
def IP (p:Int) (l:List zI):Lv:=⟨p,(l.map (·.dr)).sum,l.length⟩
def Xf:∀{l:List zI} {v:Lv} {vs:List Lv},xm l=v::vs->∃o r,l=o::r/\o.dk=v.dk
 |[],v,vs,h=>by cases h
 |o::r,v,vs,h=>by
  refine⟨o,r,rfl,?_⟩;rw[xm]at h;split at h
  ·cases h;rfl
  ·split at h
   ·rename_i e;cases h;exact e.symm
   ·cases h;rfl
def yBj {p:Int}:∀{l:List zI} {m:List zI},l≠[]->(∀o∈l,o.dk=p)->(∀o r,m=o::r->o.dk≠p)->xm (l++m)=IP p l::xm m
 |[],m,h,_,_=>absurd rfl h
 |[o],m,_,h,hm=>by
  have e:=h o jm;rw[List.singleton_append,xm];split
  ·rename_i g;simp[IP,e,g]
  ·rename_i v vs g;obtain⟨o',r,e1,e2⟩:=Xf g;have:=hm o' r e1;rw[fb (by omega)];simp[IP,e,g]
 |o::o'::l,m,_,h,hm=>by
  have e:=h o jm;have ih:=yBj (l:=o'::l) (m:=m) (by simp) (λx hx=>h x (kg _ hx)) hm;rw[uc,xm,ih];dsimp only;rw[fh (show(IP p (o'::l)).dk=o.dk from e.symm)];simp only[IP,jx,ra,iJ];rfl
def z1l {f:xM->List zI}:∀{R:List xM},(∀r∈R,f r≠[]/\∀o∈f r,o.dk=r.dk)->R.Pairwise (λr r'=>r.dk≠r'.dk)->xm (R.flatMap f)=R.map λr=>IP r.dk (f r)
 |[],_,_=>rfl
 |r::R,h,hp=>by
  rw[Hx]at hp;have ih:=z1l (R:=R) (λx hx=>h x (kg _ hx)) hp.2;rw[wg,yBj (h r jm).1 (h r jm).2,ih,jx];intro o l e;cases R with
  |nil=>cases e
  |cons r' R'=>
   rw[wg]at e;obtain⟨h1,h2⟩:=h r' (kg _ jm);cases hf:f r' with
   |nil=>exact absurd hf h1
   |cons x y=>
    rw[hf,uc]at e;cases e;rw[h2 o (by rw[hf];exact jm)];exact(hp.1 r' jm).symm
def zTu {b:dp} {Q:List (List Nat)} {s:Int} (hs:s=1\/s=2):(b.flat Q).filter (λo=>decide (o.side=s))=b.iu Q s:=by
 have h1:∀s',(b.iu Q s').filter (λo=>decide (o.side=s))=if s'=s then b.iu Q s' else[]:=by
  intro s';split
  ·rename_i e;rw[OS];intro o ho;rw[(nG ho).1,e];simp
  ·rename_i e;rw[UK];intro o ho;rw[(nG ho).1];simp[e]
 rw[dp.flat,Hy,h1,h1];rcases hs with rfl|rfl
 ·simp
 ·simp
def dp.Core.neL {b:dp} {Q:List (List Nat)} (c:b.Core Q (-1)) {s:Int} (hs:s=1\/s=2) {r:xM} (hr:r∈b.eg s):xD Q r≠[]:=c.ne s hs r hr λe=>by have:=c.uf _ (gD hs hr);omega
def dp.Core.Rk {b:dp} {Q:List (List Nat)} (c:b.Core Q (-1)) {s:Int} (hs:s=1\/s=2) {r:xM} (hr:r∈b.eg s):b.told r=IP r.dk (b.ia Q s r):=by
 have hg:=c.get hs hr;have Nq:=c.uf _ (gD hs hr);have hq:=c.wf.q _ _ hg;have HI:=c.wf.ql;rw[dp.told,Sw Nq.1 hq,IP,dp.ia,wb,im];rfl
def dp.Core.lad {b:dp} {Q:List (List Nat)} (c:b.Core Q (-1)) {s:Int} (hs:s=1\/s=2):gL (b.flat Q) s=(b.eg s).map b.told:=by
 rw[gL,zTu hs,dp.iu,z1l]
 ·exact uv λr hr=>(c.Rk hs hr).symm
 ·intro r hr;refine⟨λe=>c.neL hs hr (List.map_eq_nil_iff.1 e),λo ho=>(qL ho).2⟩
 ·exact(c.xa s hs).imp λh=>NU h
def dp.Core.iG {b:dp} {Q:List (List Nat)} (c:b.Core Q (-1)) {s:Int} (hs:s=1\/s=2):b.iy (b.eg s)=Sx.iG (b.flat Q) s:=by
 rw[Sx.iG,c.lad hs];cases b.eg s<;>rfl
def dp.Core.Fb {b:dp} {Q:List (List Nat)} (c:b.Core Q (-1)):b.ou:=by
 intro q hq;obtain⟨n,hn⟩:=B6.1 hq;have gv:=(jv.1 hn).1;rw[c.wf.ql]at gv;obtain⟨l,hl⟩:=z6 gv;have:=c.wf.q n l hl;rw[hn]at this;cases this;have:=c.wf.toyo.short hl;constructor<;>dsimp only<;>omega
def kC (L:List zI):jy:=(kq.Fc (iG L 1)).At (iG L 2)
def dp.fq.top {b:dp} {L:List zI} (h:b.fq L):b.top=kC L:=by
 obtain⟨Q,c,ht,rfl⟩:=h;rw[dp.top,kC,<- c.iG (.inl rfl),<- c.iG (.inr rfl)];rfl
def dp.fq.Fb {b:dp} {L:List zI} (h:b.fq L):b.ou:=by
 obtain⟨Q,c,ht,rfl⟩:=h;exact c.Fb
structure Kn (o:zI):Prop where
 s:o.side=1\/o.side=2
 q:1<=o.dr/\o.dr<=1000000
def dp.fq.ox {b:dp} {L:List zI} (h:b.fq L):(∀o∈L,Kn o)/\(L.map (·.id)).Nodup/\L.length<=250:=by
 obtain⟨Q,c,ht,rfl⟩:=h;refine⟨λo ho=> ?_,c.ids,?_⟩
 ·obtain⟨hs,r,hr,ho,hp⟩:=rB ho;refine⟨hs,?_⟩;obtain⟨k,hk,e⟩:=pj.1 ho;obtain⟨_,⟨_,_,h2⟩,_⟩:=c.wf.toyo.mem (c.get hs hr) hk;have eq:o.dr=(b.a.fa k).dr:=by rw[<- e];rfl
  rw[eq];exact⟨c.wf.pos _ _ (c.get hs hr) _ hk,h2.q2⟩
 ·have qt:(((b.eg 1).flatMap (xD Q)++(b.eg 2).flatMap (xD Q))).Nodup:=by
   have hm:((b.flat Q).map (·.id))=((b.eg 1).flatMap (xD Q)++(b.eg 2).flatMap (xD Q)).map λk=>(b.a.fa k).id:=by
    rw[dp.flat,jr,jr,dp.iu,dp.iu,lO,lO,lO,lO];congr 1
    ·exact xE λr _=>by rw[dp.ia,wb];rfl
    ·exact xE λr _=>by rw[dp.ia,wb];rfl
   have:=c.ids;rw[hm]at this;exact List.Pairwise.of_map _ (λa b Eo e=>Eo (by rw[e])) this
  have hl:(b.flat Q).length=((b.eg 1).flatMap (xD Q)++(b.eg 2).flatMap (xD Q)).length:=by
   rw[dp.flat,iv,iv,dp.iu,dp.iu,M3,M3,M3,M3];congr 1
   ·congr 1;exact uv λr _=>by rw[dp.ia,im]
   ·congr 1;exact uv λr _=>by rw[dp.ia,im]
  rw[hl];refine WR 250 qt λk hk=> ?_
  rcases pz.1 hk with hk|hk
  ·obtain⟨r,hr,hk⟩:=AL.1 hk;exact(c.wf.toyo.mem (c.get (.inl rfl) hr) hk).1
  ·obtain⟨r,hr,hk⟩:=AL.1 hk;exact(c.wf.toyo.mem (c.get (.inr rfl) hr) hk).1
def dp.fq.fit {b:dp} {L:List zI} (h:b.fq L):b.fit:=by
 obtain⟨Q,c,ht,rfl⟩:=h;have hs:=c.small;have h1:=c.ql;have h2:=c.wf.ql;have Pn:=c.qb;rw[dp.qs,iv,iv,im,im]at h1;refine⟨⟨hs.1.1,λhf=> ?_,λq hq=> ?_⟩,oM,oM,oM,oM⟩
 ·obtain⟨k,_,hk,DJ,GS,_⟩:=c.wf.toyo.unused hf;exact⟨_,lq DJ,GS⟩
 ·obtain⟨n,hn⟩:=B6.1 hq;have gv:=(jv.1 hn).1;rw[c.wf.ql]at gv;obtain⟨l,hl⟩:=z6 gv;have:=c.wf.q n l hl;rw[hn]at this;cases this;dsimp only;rcases wY l with e|⟨y,j,e,e2⟩
  ·exact .inl ((pV l).2 e)
  ·rw[e2];have:=(c.wf.toyo.mem hl (k:=j) (by rw[e];simp)).1;rw[c.wf.len];exact .inr ⟨oM,oM⟩
def sc:Nat->List (List zI)->List (Int×Int)
 |_,[]=>[]
 |k,L::B=>L.map (λo=>(o.id,(k:Int)))++sc (k+1) B
def AG:∀{B:List (List zI)} {n:Nat} {x:Int×Int},x∈sc n B↔∃(k:Nat) (L:List zI),B[k]? =az L/\x.1∈L.map (·.id)/\x.2=((n+k:Nat):Int)
 |[],n,x=>by simp[sc]
 |L::B,n,x=>by
  rw[sc,pz,AG (B:=B)];constructor
  ·rintro(h|⟨k,L',h1,h2,h3⟩)
   ·obtain⟨o,ho,rfl⟩:=pj.1 h;exact⟨0,L,rfl,tc (f:=(·.id)) ho,rfl⟩
   ·exact⟨k+1,L',h1,h2,by rw[h3];omega⟩
  ·rintro⟨k,L',h1,h2,h3⟩;cases k with
   |zero=>
    cases h1;obtain⟨o,ho,e⟩:=pj.1 h2;exact .inl (pj.2 ⟨o,ho,Prod.ext e h3.symm⟩)
   |succ k=>exact .inr ⟨k,L',h1,h2,by rw[h3];omega⟩
def SM:∀{B:List (List zI)} (n k:Nat),k<B.length->∃rest,∀X:List zI,(sc n (B.set k X)).Perm (X.map (λo=>(o.id,((n+k:Nat):Int)))++rest)
 |[],n,k,h=>absurd h (by simp)
 |L::B,n,0,h=>⟨sc (n+1) B,λX=> .refl _⟩
 |L::B,n,k+1,h=>by
  obtain⟨rest,hr⟩:=SM (B:=B) (n+1) k (by simpa using h);refine⟨L.map (λo=>(o.id,(n:Int)))++rest,λX=> ?_⟩;rw[OO,sc];refine((hr X).append_left _).trans ?_;rw[<- jh,<- jh,show n+1+k=n+(k+1)by omega];exact A0.append_right _
structure gq.fq (s:gq) (p:ff) (B:List (List zI)):Prop where
 ep:s.p=p
 bl:s.ej.length=B.length
 bk:∀(k:Nat) (b:dp) (L:List zI),s.ej[k]? =az b->B[k]? =az L->b.fq L
 wh:s.wh.Perm (sc 0 B)
 ids:((sc 0 B).map (·.1)).Nodup
def mZ (B:List (List zI)) (id:Int):Option Nat:=B.findIdx? λL=>wZ L id
def gZ {B:List (List zI)} {id:Int} {k:Nat} (h:mZ B id=az k):∃L,B[k]? =az L/\wZ L id=ax:=by
 rw[mZ,M7]at h;obtain⟨h1,h2,_⟩:=h;exact⟨_,vd h1,h2⟩
def z6l {B:List (List zI)} {id:Int} (h:mZ B id=ba):∀L∈B,wZ L id=ay:=by
 rw[mZ,OY]at h;exact h
def VY:∀{l:List (Int×Int)},(l.map (·.1)).Nodup->∀{k x:Int},(k,x)∈l->BY l k=az x
 |[],_,k,x,hx=>by cases hx
 |p::l,h,k,x,hx=>by
  rw[jx,zk]at h;rw[BY,MX];rcases mn.1 hx with ex|hx
  ·subst ex;simp
  ·have:p.1≠k:=by rintro e;exact h.1 (e▸tc (f:=(·.1)) hx)
   rw[ku this];exact VY h.2 hx
def yDp {l:List (Int×Int)} {k:Int} (h:k∉l.map (·.1)):BY l k=ba:=by
 rw[BY,Option.map_eq_none_iff,List.find?_eq_none];intro x hx e;have e:x.1=k:=by simpa using e
 exact h (e▸tc (f:=(·.1)) hx)
def gq.fq.keys {s:gq} {p:ff} {B:List (List zI)} (h:s.fq p B):(s.wh.map (·.1)).Nodup:=(h.wh.map (·.1)).nodup_iff.2 h.ids
def gq.fq.at_ {s:gq} {p:ff} {B:List (List zI)} (h:s.fq p B) (id:Int):BY s.wh id=(mZ B id).map (λk:Nat=>(k:Int)):=by
 cases hi:mZ B id with
 |none=>
  refine yDp λhm=> ?_
  rw[(h.wh.map (·.1)).mem_iff]at hm
  obtain⟨x,hx,rfl⟩:=pj.1 hm;obtain⟨k,L,h1,h2,_⟩:=AG.1 hx;have:=z6l hi L (lq h1);rw[kh.2 h2]at this;cases this
 |some k=>
  obtain⟨L,h1,h2⟩:=gZ hi;refine VY h.keys (h.wh.mem_iff.2 (AG.2 ⟨k,L,h1,kh.1 h2,by simp⟩))
def kM (B:List (List zI)) (id q:Int):List (List zI)×Int:=match mZ B id with
 |none=>(B,26)
 |some k=>(B.set k (qA (B.getD k []) id q).1,(qA (B.getD k []) id q).2)
def Wk {L:List zI} (h:(L.map (·.id)).Nodup) (id q:Int):((qA L id q).1.map (·.id)=L.map (·.id)/\wZ (qA L id q).1 id=wZ L id)\/((qA L id q).1=L.filter (λo=> !decide (o.id=id))/\wZ (qA L id q).1 id=ay):=by
 rw[qA];by_cases h1:wZ L id=ay
 ·rw[fh h1];exact .inl ⟨rfl,rfl⟩
 have h1:wZ L id=ax:=by simpa using h1
 rw[fb (by rw[h1];decide)];by_cases h2:q<1\/(cM L id).dr<q
 ·rw[fh h2];exact .inl ⟨rfl,rfl⟩
 rw[fb h2];dsimp only;by_cases h3:(cM L id).dr=q
 ·refine .inr ?_;have e:gB L id q=L.filter λo=> !decide (o.id=id):=by rw[<- h3];exact zTc h h1
  refine⟨e,?_⟩;rw[e,wZ,KR];intro o ho;rw[uu]at ho;simpa using ho.2
 ·refine .inl ?_;have hm:(gB L id q).map (·.id)=L.map (·.id):=by
   have:gB L id q=L.map λo=>if o.id=id then{o with dr:=o.dr-q}else o:=by
    rw[gB,<- List.filterMap_eq_map];refine mX λo ho=> ?_
    simp only[cn];by_cases e:o.id=id
    ·have hg:=sY h ho;rw[e]at hg;rw[fh e,fh e,fb (λe2=>h3 (by rw[hg];exact e2))]
    ·rw[fb e,fb e]
   rw[this,wb];refine uv λo _=> ?_
   simp only[cn];split<;>rfl
  refine⟨hm,?_⟩;rw[Hv,kh,kh,hm]
def yCr:∀{l:List (Int×Int)} {k:Int},(l.map (·.1)).Nodup->KH k l=l.filter λx=> !decide (x.1=k)
 |[],k,_=>rfl
 |(a,b)::l,k,h=>by
  rw[jx,zk]at h;rw[KH];by_cases e:k=a
  ·subst e;rw[fh rfl,OV (by simp)];symm;rw[OS];intro x hx;have:x.1≠k:=λe=>h.1 (e▸tc (f:=(·.1)) hx)
   simp[this]
  ·rw[fb e,OW (by simp[Ne.symm e]),yCr h.2]
def z3v:∀{l:List (Int×Int)} {k x:Int},k∉l.map (·.1)->IT k x l=l++[(k,x)]
 |[],k,x,_=>rfl
 |p::l,k,x,h=>by
  rw[jx,mn,not_or]at h;rw[IT,fb h.1,z3v h.2];rfl
def uV {α:Type} {l:List α} {k:Nat} {x:α} (h:l[k]? =az x):l.set k x=l:=by
 apply Hw;intro i;rw[GF];split
 ·rename_i e;subst e;rw[fh (jv.1 h).1,h]
 ·rfl
def gq.fq.set {s:gq} {p:ff} {B:List (List zI)} (h:s.fq p B) {k:Nat} {L':List zI} {b':dp} (hb:b'.fq L') (hk:k<B.length) {wh':List (Int×Int)} (hw:wh'.Perm (sc 0 (B.set k L'))) (hi:((sc 0 (B.set k L')).map (·.1)).Nodup):({s with ej:=s.ej.set k b',wh:=wh'}:gq).fq p (B.set k L'):=by
 refine⟨h.ep,by simpa using h.bl,λj b L h1 h2=> ?_,hw,hi⟩;by_cases e:k=j
 ·subst e;have h1:(s.ej.set k b')[k]? =az b:=h1;rw[fW (by rw[h.bl];exact hk)]at h1;rw[fW hk]at h2;cases h1;cases h2;exact hb
 ·have h1:(s.ej.set k b')[j]? =az b:=h1;rw[uG e]at h1 h2;exact h.bk j b L h1 h2
def gq.fq.take {s:gq} {p:ff} {B:List (List zI)} (h:s.fq p B) {id q:Int} {k:Nat} (hi:mZ B id=az k) {L:List zI} (hL:B[k]? =az L) (hn:(L.map (·.id)).Nodup) {b':dp} (hb:b'.fq (qA L id q).1):
 ({s with ej:=s.ej.set k b',wh:=if wZ (qA L id q).1 id=ax then s.wh else KH id s.wh}:gq).fq p (kM B id q).1:=by
 have hk:=(jv.1 hL).1;have ht:(kM B id q).1=B.set k (qA L id q).1:=by simp only[kM,hi,zT hL]
 obtain⟨L2,e1,hh⟩:=gZ hi;rw[hL]at e1;cases e1;obtain⟨rest,hr⟩:=SM (B:=B) 0 k hk;have K9:=hr L;rw[uV hL]at K9;rw[ht];rcases Wk hn id q with⟨e1,e2⟩|⟨e1,e2⟩
 ·have hm:∀X Y:List zI,X.map (·.id)=Y.map (·.id)->X.map (λo=>(o.id,((0+k:Nat):Int)))=Y.map (λo=>(o.id,((0+k:Nat):Int))):=by
   intro X Y e;have:=congrArg (aa λi:Int=>(i,((0+k:Nat):Int))) e;rw[wb,wb]at this;exact this
  have hp:(sc 0 (B.set k (qA L id q).1)).Perm (sc 0 B):=by
   refine(hr _).trans ?_;rw[hm _ _ e1];exact K9.symm
  rw[e2,hh,fh rfl];exact h.set hb hk (h.wh.trans hp.symm) ((hp.map (·.1)).nodup_iff.2 h.ids)
 ·rw[e2,fb (by decide)];have Bq:∀x∈rest,x.1≠id:=by
   intro x hx e;have qt:=(K9.map (·.1)).nodup_iff.1 h.ids
   rw[jr,wb]at qt;have h1:id∈L.map ((·.1)∘λo:zI=>(o.id,((0+k:Nat):Int))):=kh.1 hh
   exact(Af.1 qt).2.2 id h1 x.1 (tc (f:=(·.1)) hx) e.symm
  have hp:(sc 0 (B.set k (qA L id q).1)).Perm ((sc 0 B).filter λx=> !decide (x.1=id)):=by
   refine(hr _).trans (.trans ?_ (K9.filter _).symm);rw[e1,Hy,List.filter_map];have:rest.filter (λx=> !decide (x.1=id))=rest:=by
    rw[OS];intro x hx;simp[Bq x hx]
   rw[this];exact .refl _
  refine h.set hb hk ?_ ((hp.map (·.1)).nodup_iff.2 (h.ids.sublist (List.Sublist.map _ OR)))
  rw[yCr h.keys];exact(h.wh.filter _).trans hp.symm
def Kx (p:ff) (B:List (List zI)) (inst id:Int) (s dk q:Int):List (List zI)×Int:=
 if inst<0\/B.length<=inst then(B,20)else if(mZ B id).isSome=ax then(B,25)else if 250<=(sc 0 B).length then(B,13)else if p.dk inst dk≠0 then(B,p.dk inst dk)
 else(B.set inst.toNat (D2 (B.getD inst.toNat []) s id dk q).1,(D2 (B.getD inst.toNat []) s id dk q).2)
def yMi (L:List zI) (s id p q:Int):((Ha L s id p q).map (·.id)).Perm (id::L.map (·.id)):=by
 have:∀X:List zI,((X.takeWhile (before s p)++⟨id,s,p,q,gU L s p⟩::X.dropWhile (before s p)).map (·.id)).Perm (id::X.map (·.id)):=by
  intro X
  conv=>rhs;rw[<- xFm (p:=before s p) (l:=X)]
  rw[jr,jx,jr];exact mo
 rw[Ha];split
 ·refine(this _).trans ?_;rw[yBv]
 ·exact this _
def gq.fq.add {s:gq} {p:ff} {B:List (List zI)} (h:s.fq p B) (inst id:Int) (sd:Bool) (dk q:Int):
 (gq.ic ⟨s,inst,id,sd,dk,q⟩).1.fq p (Kx p B inst id (zC sd) dk q).1/\(gq.ic ⟨s,inst,id,sd,dk,q⟩).2=(Kx p B inst id (zC sd) dk q).2:=by
 have Ei:zC sd=1\/zC sd=2:=by cases sd;exact .inl rfl;exact .inr rfl
 rw[gq.ic,Kx];dsimp only;rw[h.bl,h.at_,h.wh.length_eq,show s.p.dk inst dk=p.dk inst dk by rw[h.ep],Option.isSome_map];by_cases c1:inst<0\/(B.length:Int)<=inst
 ·rw[fh c1,fh c1];exact⟨h,rfl⟩
 rw[fb c1,fb c1];by_cases c2:(mZ B id).isSome=ax
 ·rw[fh c2,fh c2];exact⟨h,rfl⟩
 rw[fb c2,fb c2];by_cases c3:250<=(sc 0 B).length
 ·rw[fh c3,fh c3];exact⟨h,rfl⟩
 rw[fb c3,fb c3];by_cases c4:p.dk inst dk≠0
 ·rw[fh c4,fh c4];exact⟨h,rfl⟩
 rw[fb c4,fb c4];obtain⟨k,hk⟩:∃k:Nat,inst=k:=⟨inst.toNat,oM⟩
 subst hk;rw[oF];have qj:k<B.length:=by omega
 obtain⟨b,hb⟩:=z6 (l:=s.ej) (i:=k) (by rw[h.bl];exact qj);obtain⟨L,hL⟩:=z6 (l:=B) (i:=k) qj;have hba:s.AD k=b:=by rw[gq.AD,oF];exact zT hb
 rw[hba,zT hL];obtain⟨r1,r2⟩:=(h.bk k b L hb hL).add Ei id dk q;refine⟨?_,r2⟩;rw[r2];obtain⟨rest,hr⟩:=SM (B:=B) 0 k qj;have K9:=hr L;rw[uV hL]at K9;have RT:(D2 L (zC sd) id dk q).2≠0/\(D2 L (zC sd) id dk q).1=L\/(D2 L (zC sd) id dk q).2=0/\(D2 L (zC sd) id dk q).1=Ha L (zC sd) id dk q:=by
  rw[D2]
  repeat' split
  ·exact .inl ⟨by simp,rfl⟩
  ·exact .inl ⟨by simp,rfl⟩
  ·exact .inl ⟨by simp,rfl⟩
  ·exact .inr ⟨rfl,rfl⟩
 rcases RT with⟨e1,e2⟩|⟨e1,e2⟩
 ·rw[fb e1];refine h.set r1 qj ?_ ?_
  ·rw[e2,uV hL];exact h.wh
  ·rw[e2,uV hL];exact h.ids
 ·rw[fh e1];have HJ:id∉s.wh.map (·.1):=by
   intro hm;obtain⟨x,hx,rfl⟩:=pj.1 hm;have:=VY h.keys hx;rw[h.at_]at this;cases hq:mZ B x.1 with
   |none=>rw[hq]at this;cases this
   |some j=>rw[hq]at c2;exact c2 rfl
  have hp:(sc 0 (B.set k (D2 L (zC sd) id dk q).1)).Perm ((id,(k:Int))::sc 0 B):=by
   refine(hr _).trans (.trans ?_ (K9.symm.cons _));rw[e2,<- uc];refine co _ ?_;have:=(yMi L (zC sd) id dk q).map λi:Int=>(i,(k:Int))
   rw[wb,jx,wb]at this;rw[oa];exact this
  refine h.set r1 qj ?_ ((hp.map (·.1)).nodup_iff.2 (zk.2 ⟨?_,h.ids⟩))
  ·rw[z3v HJ];exact(O0 _ _).trans ((h.wh.cons _).trans hp.symm)
  ·rw[<- (h.wh.map (·.1)).mem_iff];exact HJ
def VV:∀(n k:Nat),sc k (ab n [])=[]
 |0,_=>rfl
 |n+1,k=>by rw[KU,sc,VV];rfl
def z7a (p:ff):(bR p).fq p (ab p.count []):=by
 refine⟨rfl,by simp[bR],λk b L h1 h2=> ?_,?_,?_⟩
 ·have e1:b=mg:=UL (lq (show(ab p.count mg)[k]? =az b from h1));have e2:L=[]:=UL (lq h2);rw[e1,e2];exact yEw
 ·rw[VV];exact .refl _
 ·rw[VV];exact List.nodup_nil
def yTu (s:Bool):gi:=fp HZ (λi=>[.nm 0 0,zA (zC s)]) (λi=>[yB i.b]) (λi=>i.b.fq i.L) (λ_=> .own 1) (λi=>[yB i.b,.own 177 3 ((gL i.L (zC s)).map kx)])
def JT:gi:=yTu ay
def JS:gi:=yTu ax
def y4p (s:Bool) (i:HZ):List gp:=[{ι:=Nat,dv:=λj=>[(5,.own 0),(19,zA j)],rows:=λj=>[.own 177 3 (((gL i.L (zC s)).take j).map kx)]}]
structure BkT where
 b:dp
 L:List zI
 s:Bool
def aao:gi:=fp BkT (λi=>[.nm 0 0,zA (zC i.s)]) (λi=>[yB i.b]) (λi=>i.b.fq i.L) (λ_=> .own 1) (λi=>[yB i.b,.own 177 3 ((gL i.L (zC i.s)).map kx)])
@[reducible] def yNa (s:gq):List fi:=[xV s 0,xV s 1,xV s 2,xV s 3,xV s 4]
def Fx:gi:=fp gq (λ_=>[.nm 0 0]) (λs=>yNa s) gq.ou (λs=> .own 5) (λs=>yNa s++[.own 122 6 (s.fg.map z7)])
structure A5 where
 s:gq
 p:ff
 B:List (List zI)
 id:Int
 q:Int
def FA:gi where
 ι:=A5
 pat:=λi=>[.nm 0 0,zA i.id,zA i.q]
 pre:=λi=>[zE i.s]
 dq:=λi=>i.s.fq i.p i.B/\i.B.length<=1000
 alts:=λi=>[{o:=gq,res:=λ_=>zA (kM i.B i.id i.q).2,post:=λs=>[zE s],rel:=λs=>s.fq i.p (kM i.B i.id i.q).1}]
def z5 (B:List (List zI)) (id:Int):Int×zI×Bool:=match mZ B id with
 |none=>(0,y1q,ay)
 |some k=>(k,cM (B.getD k []) id,ax)
def FC:gi:=fp A5 (λi=>[.nm 0 0,zA i.id]) (λi=>[zE i.s]) (λi=>i.s.fq i.p i.B/\i.B.length<=1000) (λi=> .ja [zA (z5 i.B i.id).1,MQ (z5 i.B i.id).2.1,yN (z5 i.B i.id).2.2]) (λi=>[zE i.s])
end Sx
