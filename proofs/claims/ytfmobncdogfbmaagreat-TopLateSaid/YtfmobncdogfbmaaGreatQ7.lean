/- Texts of ours. No condition. -/
import Derived.Test.YtfmobncdogfbmaaGreatQ6
set_option linter.all false
open List renaming map->ab,take->ac,pairwise_append->ae,find?_eq_none->af,filter_congr->ag,filter_map->aj,replicate->ak,length_erase_of_mem->am,map_set->ao,map_singleton->ap,range->aq,drop->ar
open Bool renaming true->au,false->av
open Sx.fq renaming rh->aw,cells->ax,own->ay,kq->az
open Option renaming some->ba,none->bc
open Go.Builtin renaming zeroCells->be,firstCells->bg,append_->bo
open Go.IntKind renaming i64->bu
open Go renaming Value->bv,World->bz,Program->cd,size_zeroCells->ce,TypeId->cf,Addr->cg
open Go.Value renaming int->cm
open Function renaming comp->co
open List.Perm renaming append_right->cp,append_left->cq
namespace Sx
set_option maxRecDepth 100000
open Go Cv Go.Proofs
def ySx (i:CS):Prop:=
 ∃(a:Nat),(a:Int)=0/\iE (ac a i.qs)=[]/\∃(b:Nat->Prop),∃(c:Nat->Nat),b a/\∀(d:Nat),b d->dp (decide ((d:Int)<((ab wV i.l).length:Int))) ((0<=(d:Int)/\(d:Int)<((ab wV i.l).length:Int))/\∃(e:Int),∃(f:Int),∃(g:Int),∃(h:Int),∃(j:Bool),zD (ab wV i.l) (d:Int).toNat 0 5=ba [dI e,dI f,dI g,dI h,D.v (.bool j)]/\((iE (ac d i.qs)).length+1)*(8:Nat)<=(140737488355328:Nat)/\∃(k:Nat),(k:Int)=bu.wrap ((d:Int)+1)/\iE (ac k i.qs)=iE (ac d i.qs)++[[dI h]]/\b k/\c k<c d/\Bi i.p (dl (az 1 (iE i.p.dt)))) (dp (i.p.gm==1) (∃(e:Cs),iE e.l=iE (ac d i.qs)/\e.q=i.q/\(vG e)/\ff (dx (iE (jF i)=iE (fD e.l e.q)/\True))) (dp (i.p.gm==2) (∃(e:List zJ),ab wV e=ab wV i.l/\e.length<=1000000/\ff (∃(g:vh),iE g.l=iE (ac d i.qs)/\g.top=jc e/\g.most=i.p.top/\g.least=i.p.least/\g.q=i.q/\(g.l.length<=1000000/\((-9223372036854775808)<=g.q/\g.q<=9223372036854775807)/\((-9223372036854775808)<=g.least/\g.least<=9223372036854775807)/\(-9223372036854775808)<=g.most/\g.most<=9223372036854775807)/\ff (dx (iE (jF i)=iE (Dg g)/\True)))) (dp (i.p.gm==3) (∃(e:Kr),iE e.l=iE (ac d i.qs)/\e.part=i.p.part/\e.least=i.p.least/\e.q=i.q/\(e.l.length<=1000000/\((-9223372036854775808)<=e.q/\e.q<=9223372036854775807)/\((-9223372036854775808)<=e.least/\e.least<=9223372036854775807)/\(-9223372036854775808)<=e.part/\e.part<=9223372036854775807)/\ff (dx (iE (jF i)=iE (CC e)/\True))) (dx (iE (jF i)=[]/\True)))))
def y9d (i:CS) (h:G7.dp i):ySx i:=by
 obtain⟨hl,hq,hle,ss,X6⟩:i.l.length<=1000/\yP i.q/\yP i.p.least/\yP i.p.top/\yP i.p.part:=h;have IJ:i.qs.length=i.l.length:=by simp[CS.qs]
 unfold ySx Bi ff dx vG dI;simp only[y9,ia];refine⟨0,i7,i7,λj=>j<=i.l.length,λj=>i.l.length-j,mn _,λj hj=>zG (λc=> ?_) (λc=> ?_)⟩
 ·have ox:j<i.l.length:=by omega
  obtain⟨o,ho⟩:=zZ (l:=i.l) (i:=j) ox;have hqo:i.qs[j]? =ba o.dr:=by rw[CS.qs,qt,ho];rfl
  refine⟨⟨oM,oM⟩,o.id,o.side,o.dm,o.dr,o.top,y7x ho,by rw[nn];omega,j+1,qu oM,?_,ox,Z9,gn⟩;rw[qq,hqo];simp[iE]
 have FW:j=i.l.length:=by omega
 subst FW;rw[mz (l:=i.qs) (by omega)];refine Cv.dp.mk (λa=> ?_) (λa=>Cv.dp.mk (λb=> ?_) (λb=>Cv.dp.mk (λd=> ?_) (λd=> ?_)))
 ·have a:i.p.gm=1:=i9 a
  exact⟨⟨i.qs,i.q⟩,rfl,rfl,⟨Z9,hq⟩,λ_ _=>⟨(),by rw[jF,fh a],trivial⟩⟩
 ·have a:¬i.p.gm=1:=i9 a
  have b:i.p.gm=2:=i9 b
  exact⟨i.l,rfl,oM,λ_ _=>⟨⟨i.qs,jc i.l,i.p.top,i.p.least,i.q⟩,nf ⟨rfl,⟨Z9,hq,hle,ss⟩,λ_ _=>⟨(),by rw[jF,ez a,fh b],trivial⟩⟩⟩⟩
 ·have a:¬i.p.gm=1:=i9 a
  have b:¬i.p.gm=2:=i9 b
  have d:i.p.gm=3:=i9 d
  exact⟨⟨i.qs,i.p.part,i.p.least,i.q⟩,iM ⟨rfl,⟨Z9,hq,hle,X6⟩,λ_ _=>⟨(),by rw[jF,ez a,ez b,fh d],trivial⟩⟩⟩
 ·have a:¬i.p.gm=1:=i9 a
  have b:¬i.p.gm=2:=i9 b
  have d:¬i.p.gm=3:=i9 d
  exact⟨(),by rw[jF,ez a,ez b,ez d];rfl,trivial⟩
def yNd:G7.ok Tryz.prog 236:=gx mixed (dw yGm (dw yJc (dw xBg (dw y5u fk)))) 0 i6 (λi=>xAa i) [] Tryz.func236 y9d
def uS (l:List Nat) (t:Int):Int:=match l with
 |[]=>t
 |k::_=>k
def jU:List Nat->Int->Int
 |[],p=>p
 |k::l,_=>jU l k
structure WE (s:Slot) (n k:Nat) (p t:Int):Prop where
 used:s.used=au
 no:s.n=k
 queue:s.queue=n
 ahead:s.ahead=p
 back:s.back=t
 q1:0<=s.dr
 q2:s.dr<=1000000
def yq (sl:List Slot) (n:Nat):Int->List Nat->Int->Prop
 |_,[],_=>True
 |p,k::l,t=>(∃s,sl[k]? =ba s/\WE s n k p (uS l t))/\yq sl n k l t
def zMm (l1 l2:List Nat) (t:Int):uS (l1++l2) t=uS l1 (uS l2 t):=by cases l1<;>rfl
def mU:∀(l1 l2:List Nat) (p:Int),jU (l1++l2) p=jU l2 (jU l1 p)
 |[],l2,p=>rfl
 |k::l1,l2,p=>mU l1 l2 k
def NW {sl:List Slot} {n:Nat}:∀{l1 l2:List Nat} {p t:Int},yq sl n p (l1++l2) t↔yq sl n p l1 (uS l2 t)/\yq sl n (jU l1 p) l2 t
 |[],l2,p,t=>by simp[yq,jU]
 |k::l1,l2,p,t=>by
  rw[uh,yq,yq,zMm,NW,jU,and_assoc]
def yDu {sl:List Slot} {n k:Nat}:∀{l:List Nat} {p t:Int},yq sl n p l t->k∈l->∃s p' t',sl[k]? =ba s/\WE s n k p' t'
 |j::l,p,t,h,hk=>by
  rcases jx.1 hk with rfl|hk
  ·obtain⟨⟨s,h1,h2⟩,_⟩:=h;exact⟨s,_,_,h1,h2⟩
  ·exact yDu h.2 hk
def uL {sl RM:List Slot} {n:Nat}:∀{l:List Nat} {p t:Int},(∀k∈l,RM[k]? =sl[k]?)->yq sl n p l t->yq RM n p l t
 |[],p,t,_,h=>h
 |k::l,p,t,e,⟨⟨s,h1,h2⟩,h3⟩=>⟨⟨s,by rw[e k iX];exact h1,h2⟩,uL (λj hj=>e j (ji _ hj)) h3⟩
def cY {α:Type} {l:List α} {f:α->α} {i j:Nat} (h:i≠j):(l.modify i f)[j]? =l[j]? :=by rw[FI];cases l[j]? <;>simp[h]
def JJ {α:Type} {l:List α} {f:α->α} {i:Nat} {x:α} (h:l[i]? =ba x):(l.modify i f)[i]? =ba (f x):=by rw[FI,h];simp
def u7 {α:Type} {l:List α} {x:α} {i j:Nat} (h:i≠j):(l.set i x)[j]? =l[j]? :=by rw[Ce,ez h]
def cQ {α:Type} {l:List α} {x:α} {i:Nat} (h:i<l.length):(l.set i x)[i]? =ba x:=by rw[Ce,fh rfl,fh h]
def mE {α:Type} {Q:List α} {n m:Nat} {x y:α} (h:(Q.set n x)[m]? =ba y):(m=n/\y=x)\/(m≠n/\Q[m]? =ba y):=by
 by_cases e:n=m
 ·subst e;have hn:n<Q.length:=by
   have:=(jm.1 h).1;simpa using this
  rw[cQ hn]at h;cases h;exact .inl ⟨rfl,rfl⟩
 ·rw[u7 e]at h;exact .inr ⟨λc=>e c.symm,h⟩
def z7x {sl:List Slot} {n k:Nat} {l:List Nat} {p t:Int} (t':Int) (hk:k∉l) (h:yq sl n p (l++[k]) t):yq (sl.modify k λs=>{s with back:=t'}) n p (l++[k]) t':=by
 rw[NW]at h ⊢;obtain⟨h1,⟨s,h2,h3⟩,_⟩:=h;refine⟨uL (λj hj=>cY (λe=>hk (e▸hj))) h1,⟨_,JJ h2,?_⟩,trivial⟩;exact⟨h3.used,h3.no,h3.queue,h3.ahead,rfl,h3.q1,h3.q2⟩
def yLk {sl:List Slot} {n k:Nat} {l:List Nat} {p t:Int} (p':Int) (hk:k∉l) (h:yq sl n p (k::l) t):yq (sl.modify k λs=>{s with ahead:=p'}) n p' (k::l) t:=by
 obtain⟨⟨s,h1,h2⟩,h3⟩:=h;refine⟨⟨_,JJ h1,?_⟩,uL (λj hj=>cY (λe=>hk (e▸hj))) h3⟩;exact⟨h2.used,h2.no,h2.queue,rfl,h2.back,h2.q1,h2.q2⟩
def vR (l:List Nat):l=[]\/∃(x:List Nat) (j:Nat),l=x++[j]/\∀p:Int,jU l p=(j:Int):=by
 rcases List.eq_nil_or_concat l with rfl|⟨x,j,rfl⟩
 ·exact .inl rfl
 ·exact .inr ⟨x,j,by simp,λp=>by rw[List.concat_eq_append,mU];rfl⟩
def tD (l:List Nat):jU l (-1)= -1↔l=[]:=by
 rcases vR l with rfl|⟨x,j,rfl,e⟩
 ·simp[jU]
 ·rw[e];simp
def zWn (l:List Nat):uS l (-1)= -1↔l=[]:=by
 cases l with
 |nil=>simp[uS]
 |cons k l=>simp only[uS];constructor
            ·intro h;omega
            ·intro h;cases h
def NS {α β:Type} {g:α->β} {f:α->α} (h:∀x,g (f x)=g x):∀(l:List α) (i:Nat),(l.modify i f).map g=l.map g
 |[],i=>by simp
 |a::l,0=>by simp[h]
 |a::l,i+1=>by rw[RA,jf,jf,NS h l i]
def YW:∀(m:Nat) {l:List Nat},l.Nodup->(∀k∈l,k<m)->l.length<=m
 |0,[],_,_=>ju 0
 |0,k::l,_,h=>absurd (h k iX) oM
 |m+1,l,hn,h=>by
  have:=YW m (hn.erase m) λk hk=>by
   have:=(hn.mem_erase_iff).1 hk;have:=h k this.2;omega
  by_cases hm:m∈l
  ·rw[am hm]at this;omega
  ·rw[List.erase_of_not_mem hm]at this;omega
def yDk {f g:Nat->Int} {k:Nat}:∀{l:List Nat},l.Nodup->k∈l->(∀j∈l,j≠k->g j=f j)->(l.map g).sum=(l.map f).sum+(g k-f k)
 |j::l,hn,hk,h=>by
  have hn:=ym.1 hn;rw[jf,jf,qc,qc];rcases jx.1 hk with rfl|hk
  ·have:l.map g=l.map f:=uc λi hi=>h i (ji _ hi) (λe=>hn.1 (e▸hi))
   rw[this];omega
  ·have e:=h j iX (λe=>hn.1 (e▸hk));rw[yDk hn.2 hk (λi hi=>h i (ji _ hi)),e];omega
def yRn {f:Nat->Int} {m:Int}:∀{l:List Nat},(∀j∈l,0<=f j/\f j<=m)->0<=(l.map f).sum/\(l.map f).sum<=m*l.length
 |[],_=>by simp
 |j::l,h=>by
  have:=h j iX;have:=yRn (l:=l) λi hi=>h i (ji _ hi)
  rw[jf,qc,iF,Int.natCast_add,Int.mul_add];simp only[Int.natCast_one,Int.mul_one];omega
def dv.oV (a:dv) (l:List Nat):Int:=(l.map λk=>(a.fg k).dr).sum
structure dv.yw (a:dv) (Q:Q_ Nat):Prop where
 len:a.du.length=250
 ql:a.dy.length=Q.length
 q:∀(n:Nat) (l:List Nat),Q[n]? =ba l->a.dy[n]? =ba ⟨uS l (-1),jU l (-1),a.oV l,l.length⟩
 sg:∀(n:Nat) (l:List Nat),Q[n]? =ba l->yq a.du n (-1) l (-1)
 nd:∀(n:Nat) (l:List Nat),Q[n]? =ba l->l.Nodup
 us:∀(k:Nat) (s:Slot),a.du[k]? =ba s->s.used=au->∃(n:Nat) (l:List Nat),Q[n]? =ba l/\k∈l
 free:a.free=((a.du.map (·.used)).countP (!·):Nat)
structure dv.Wf (a:dv) (Q:Q_ Nat):Prop extends a.yw Q where
 pos:∀(n:Nat) (l:List Nat),Q[n]? =ba l->∀k∈l,1<=(a.fg k).dr
def dv.yw.mem {a:dv} {Q:Q_ Nat} (h:a.yw Q) {n k:Nat} {l:List Nat} (hl:Q[n]? =ba l) (hk:k∈l):k<250/\(∃p t,WE (a.fg k) n k p t)/\a.du[k]? =ba (a.fg k):=by
 obtain⟨s,p,t,h1,h2⟩:=yDu (h.sg n l hl) hk;have e:a.fg k=s:=zX h1;have gu:=(jm.1 h1).1;rw[h.len]at gu;exact⟨gu,⟨p,t,by rw[e];exact h2⟩,by rw[e];exact h1⟩
def dv.yw.one {a:dv} {Q:Q_ Nat} (h:a.yw Q) {n m k:Nat} {l l':List Nat} (hl:Q[n]? =ba l) (hl':Q[m]? =ba l') (hk:k∈l) (pk:k∈l'):n=m:=by
 obtain⟨_,⟨_,_,h1⟩,_⟩:=h.mem hl hk;obtain⟨_,⟨_,_,h2⟩,_⟩:=h.mem hl' pk;have:=h1.queue;have:=h2.queue;omega
def dv.yw.short {a:dv} {Q:Q_ Nat} (h:a.yw Q) {n:Nat} {l:List Nat} (hl:Q[n]? =ba l):l.length<=250:=YW 250 (h.nd n l hl) λk hk=>(h.mem hl hk).1
def nD {a a':dv} {l:List Nat} (h:∀k∈l,(a'.fg k).dr=(a.fg k).dr):a'.oV l=a.oV l:=by rw[dv.oV,dv.oV,uc h]
def dv.yw.sum {a:dv} {Q:Q_ Nat} (h:a.yw Q) {n:Nat} {l:List Nat} (hl:Q[n]? =ba l):0<=a.oV l/\a.oV l<=250000000:=by
 have:=yRn (f:=λk=>(a.fg k).dr) (m:=1000000) (l:=l) λj hj=>by
  obtain⟨_,⟨_,_,h1⟩,_⟩:=h.mem hl hj;exact⟨h1.q1,h1.q2⟩
 have:=h.short hl;rw[dv.oV];omega
def zXk {sl:List Slot} {n:Nat}:∀{l:List Nat} {p:Int},yq sl n p l (-1)->Re sl (uS l (-1)) l
 |[],p,_=>rfl
 |k::l,p,⟨⟨s,h1,h2⟩,h3⟩=>by
  refine⟨rfl,(jm.1 h1).1,?_⟩;rw[zX h1,h2.back];exact zXk h3
def dv.yw.ok {a:dv} {Q:Q_ Nat} (h:a.yw Q):a.Ey:=by
 refine⟨by rw[h.len];decide,λk s hk hu=> ?_⟩;obtain⟨n,l,hl,o7⟩:=h.us k s hk hu;have hQ:=(jm.1 hl).1;have IJ:=h.ql;obtain⟨l1,l2,rfl⟩:=List.append_of_mem o7;have Kd:=h.sg n _ hl;have qz:=h.nd n _ hl;rw[NW]at Kd;obtain⟨_,⟨s',h1,h2⟩,_⟩:=Kd;rw[hk]at h1;cases h1;have hq:=h2.queue;have hd:=Au.1 qz;have AA:=ym.1 hd.2.1;refine⟨⟨oM,oM⟩,h2.q2,?_,?_⟩
 ·rw[h2.ahead];rcases vR l1 with rfl|⟨x,j,rfl,e⟩
  ·exact .inl rfl
  ·have hj:j∈x++[j]:=by simp
   have Fg:=(h.mem hl (yo _ hj)).1;rw[e,h.len];refine .inr ⟨oM,oM,λe2=> ?_⟩;have:j=k:=by omega
   exact hd.2.2 j hj k iX this
 ·rw[h2.back];cases l2 with
  |nil=>exact .inl rfl
  |cons j x=>
   have Fg:=(h.mem hl (zu _ (ji _ iX))).1;rw[uS,h.len];refine .inr ⟨oM,oM,λe2=> ?_⟩;have:j=k:=by omega
   exact AA.1 (this▸iX)
def dv.yw.open {a:dv} {Q:Q_ Nat} (h:a.yw Q):a.ru.yw (Q++[[]]):=by
 have g:∀{n:Nat} {l:List Nat},(Q++[[]])[n]? =ba l->Q[n]? =ba l\/(n=Q.length/\l=[]):=by
  intro n l hl;rw[List.getElem?_append]at hl;split at hl
  ·exact .inl hl
  ·rename_i hn;have:=(jm.1 hl).1;simp only[Ba]at this;have e:n-Q.length=0:=by omega
   rw[e]at hl;cases hl;exact .inr ⟨oM,rfl⟩
 refine⟨h.len,by simp[dv.ru,h.ql],λn l hl=> ?_,λn l hl=> ?_,λn l hl=> ?_,λk s hk hu=> ?_,h.free⟩
 ·rcases g hl with hl|⟨rfl,rfl⟩
  ·show(a.dy++[mW])[n]? =_;rw[Eg (by have:=(jm.1 hl).1;have:=h.ql;omega)];exact h.q n l hl
  ·show(a.dy++[mW])[_]? =_;rw[<- h.ql,Ch (ju _),JW];rfl
 ·rcases g hl with hl|⟨rfl,rfl⟩
  ·exact h.sg n l hl
  ·trivial
 ·rcases g hl with hl|⟨rfl,rfl⟩
  ·exact h.nd n l hl
  ·exact Oc
 ·obtain⟨n,l,hl,o7⟩:=h.us k s hk hu;exact⟨n,l,by rw[Eg (jm.1 hl).1];exact hl,o7⟩
def dv.Wf.open {a:dv} {Q:Q_ Nat} (h:a.Wf Q):a.ru.Wf (Q++[[]]):=by
 refine⟨h.toyw.open,λn l hl k hk=> ?_⟩;rw[List.getElem?_append]at hl;split at hl
 ·exact h.pos n l hl k hk
 ·have:=(jm.1 hl).1;simp only[Ba]at this;have e:n-Q.length=0:=by omega
  rw[e]at hl;cases hl;cases hk
def Zh {sl RM:List Slot} {n:Nat}:∀{l:List Nat} {p t:Int},(∀k∈l,∀s,sl[k]? =ba s->∃s',RM[k]? =ba s'/\s'.used=s.used/\s'.n=s.n/\s'.queue=s.queue/\s'.ahead=s.ahead/\s'.back=s.back/\0<=s'.dr/\s'.dr<=1000000)->yq sl n p l t->yq RM n p l t
 |[],p,t,_,h=>h
 |k::l,p,t,e,⟨⟨s,h1,h2⟩,h3⟩=>by
  obtain⟨s',q0,q1,q2,q3,q4,q5,q6,q7⟩:=e k iX s h1;exact⟨⟨s',q0,⟨q1.trans h2.used,q2.trans h2.no,q3.trans h2.queue,q4.trans h2.ahead,q5.trans h2.back,q6,q7⟩⟩,Zh (λj hj=>e j (ji _ hj)) h3⟩
def z2z (a:dv) (n:Int) (t:Bool) (j:Nat):(a.mi n t).fg j=if a.iy n=au/\j=n.toNat then{a.fg j with top:=t}else a.fg j:=by
 rw[dv.mi];by_cases hu:a.iy n=au
 ·rw[fh hu];by_cases e:j=n.toNat
  ·subst e;rw[fh ⟨hu,rfl⟩];have gu:n.toNat<a.du.length:=by
    simp only[dv.iy,lr,tn]at hu;omega
   show(a.du.modify n.toNat _).getD n.toNat iH=_;obtain⟨s,hs⟩:=zZ gu;rw[zX (JJ hs),x4 hs]
  ·rw[ez (λh=>e h.2)];show(a.du.modify n.toNat _).getD j iH=a.du.getD j iH;rw[mu,cY (λh=>e h.symm),mu]
 ·rw[ez hu,ez (λh=>hu h.1)]
def dv.Wf.top {a:dv} {Q:Q_ Nat} (h:a.Wf Q) (n:Int) (t:Bool):(a.mi n t).Wf Q:=by
 have hq:∀j,((a.mi n t).fg j).dr=(a.fg j).dr:=by
  intro j;rw[z2z];split<;>rfl
 by_cases hu:a.iy n=au
 ·have e:a.mi n t={a with du:=a.du.modify n.toNat λs=>{s with top:=t}}:=by rw[dv.mi,fh hu]
  have hm:∀(k:Nat) (s:Slot),a.du[k]? =ba s->∃s',(a.mi n t).du[k]? =ba s'/\s'.used=s.used/\s'.n=s.n/\s'.queue=s.queue/\s'.ahead=s.ahead/\s'.back=s.back/\s'.dr=s.dr:=by
   intro k s hk;rw[e];by_cases ek:n.toNat=k
   ·subst ek;exact⟨_,JJ hk,rfl,rfl,rfl,rfl,rfl,rfl⟩
   ·exact⟨s,by rw[cY ek];exact hk,sy rfl⟩
  have hl:(a.mi n t).du.length=250:=by rw[e];simpa using h.len
  have Mc:(a.mi n t).du.map (·.used)=a.du.map (·.used):=by rw[e];exact NS (g:=λs:Slot=>s.used) (f:=λs:Slot=>{s with top:=t}) (λ_=>rfl) _ _
  refine⟨⟨hl,by rw[e];exact h.ql,λm l Ax=> ?_,λm l Ax=> ?_,h.nd,λk s hk hs=> ?_,by rw[Mc];rw[e];exact h.free⟩,λm l Ax k hk=>by rw[hq];exact h.pos m l Ax k hk⟩
  ·rw[nD λk _=>hq k];rw[e];exact h.q m l Ax
  ·refine Zh (λk hk s hs=> ?_) (h.sg m l Ax);obtain⟨s',q0,q1,q2,q3,q4,q5,q6⟩:=hm k s hs;obtain⟨_,⟨_,_,h2⟩,h3⟩:=h.mem Ax hk;rw[hs]at h3;cases h3;exact⟨s',q0,q1,q2,q3,q4,q5,by rw[q6];exact h2.q1,by rw[q6];exact h2.q2⟩
  ·have gu:=(jm.1 hk).1;rw[hl,<- h.len]at gu;obtain⟨s0,h0⟩:=zZ gu;obtain⟨s',q0,q1,_⟩:=hm k s0 h0;rw[hk]at q0;cases q0;exact h.us k s0 h0 (by rw[<- q1];exact hs)
 ·have e:a.mi n t=a:=by rw[dv.mi,ez hu]
  rw[e];exact h
def zUk {sl:List Slot} {k:Nat} {s x:Slot} (hk:sl[k]? =ba s):((sl.set k x).map (·.used)).countP (!·)+(if s.used=au then 0 else 1)=(sl.map (·.used)).countP (!·)+(if x.used=au then 0 else 1):=by
 have gu:=(jm.1 hk).1;have e:(sl.map (·.used))[k]'(i9 gu)=s.used:=by
  rw[List.getElem_map,(jm.1 hk).2]
 rw[ao,List.countP_set (i9 gu),e];have hp:s.used=av->1<=(sl.map (·.used)).countP (!·):=by
  intro h;apply List.countP_pos_iff.2;exact⟨s.used,si (lh hk),by rw[h];rfl⟩
 generalize (sl.map (·.used)).countP (!·)=c at hp ⊢
 cases h1:s.used<;>cases h2:x.used
 all_goals
  simp only[h1,JZ,Bool.not_true,oR,↓reduceIte,if_true,if_false]at hp ⊢
  try have hp:=hp trivial
  omega
def yHx {sl:List Slot}:(sl.map (·.used)).countP (!·)<=sl.length:=by
 have:=List.countP_le_length (p:=λb:Bool=> !b) (l:=sl.map (·.used))
 simpa using this
def dv.yw.unused {a:dv} {Q:Q_ Nat} (h:a.yw Q) (hf:a.free≠0):∃k:Nat,jW a.du=k/\k<250/\a.du[k]? =ba (a.fg k)/\(a.fg k).used=av/\∀(n:Nat) (l:List Nat),Q[n]? =ba l->k∉l:=by
 have hx:∃s∈a.du,s.used=av:=by
  have hp:0<(a.du.map (·.used)).countP (!·):=by have:=h.free;omega
  obtain⟨b,hb,ni⟩:=List.countP_pos_iff.1 hp;obtain⟨s,hs,rfl⟩:=np.1 hb;exact⟨s,hs,i9 ni⟩
 obtain⟨s,hs,hu⟩:=hx;cases hi:a.du.findIdx? λs=> !s.used with
 |none=>
  rw[Ou]at hi;have:=hi s hs;rw[hu]at this;cases this
 |some k=>
  have OQ:=hi;rw[L4]at hi;obtain⟨hk,HT,_⟩:=hi;have Ay:a.du[k]? =ba a.du[k]:=vd hk;have e:=x4 Ay;rw[<- e]at HT;have HT:(a.fg k).used=av:=i9 HT
  refine⟨k,by rw[jW,OQ];rfl,by rw[<- h.len];exact hk,by rw[e];exact Ay,HT,λn l hl o7=> ?_⟩;obtain⟨_,⟨_,_,h2⟩,_⟩:=h.mem hl o7;have:=h2.used;rw[HT]at this;cases this
def dv.Wf.put {a:dv} {Q:Q_ Nat} (h:a.Wf Q) {n:Nat} {l:List Nat} (hl:Q[n]? =ba l) (hf:a.free≠0) {id dr:Int} (top:Bool) (hq:1<=dr/\dr<=1000000):
 ∃k:Nat,jW a.du=k/\k<250/\(a.fg k).used=av/\(∀(m:Nat) (l:List Nat),Q[m]? =ba l->k∉l)/\(a.put n id dr top).Wf (Q.set n (l++[k]))/\
  (∀j,((a.put n id dr top).fg j).pn=if j=k then⟨k,id,dr,top⟩else(a.fg j).pn)/\(a.put n id dr top).free=a.free-1:=by
 obtain⟨k,hk,oY,Ay,HT,Md⟩:=h.toyw.unused hf;have o7:=Md n l hl;have FV:=(jm.1 hl).1;have hqn:=h.q n l hl;have FU:a.dy.getD n mW=⟨uS l (-1),jU l (-1),a.oV l,l.length⟩:=zX hqn;have CU:=h.toyw.sum hl;have OI:=h.toyw.short hl;have hlen:=h.len;have wv:=yHx (sl:=a.du);have uv:=h.free;obtain⟨x,hx⟩:∃x:Slot,x=⟨au,k,id,dr,top,n,jU l (-1),-1⟩:=⟨_,rfl⟩
 have hS:(a.put n id dr top).du=if jU l (-1)= -1 then a.du.set k x else(a.du.set k x).modify (jU l (-1)).toNat λs=>{s with back:=k}:=by
  simp only[dv.put,ot,FU,hk,hx]
 have Mi:(a.put n id dr top).dy=a.dy.set n ⟨uS (l++[k]) (-1),k,a.oV l+dr,(l.length:Int)+1⟩:=by
  simp only[dv.put,ot,FU,hk];rw[iw (by omega),iw (by omega)];congr 2;by_cases e:l=[]
  ·subst e;rfl
  ·rw[ez (λc=>e ((tD l).1 c)),zMm];cases l with
   |nil=>exact absurd rfl e
   |cons y ys=>rfl
 have hF:(a.put n id dr top).free=a.free-1:=by
  simp only[dv.put];rw[iw (by omega)]
 have qj:(a.du.set k x)[k]? =ba x:=cQ oM;have hlo:jU l (-1)= -1\/∃(y:List Nat) (j:Nat),l=y++[j]/\jU l (-1)=(j:Int):=by
  rcases vR l with e|⟨y,j,e,e2⟩
  ·exact .inl ((tD l).2 e)
  ·exact .inr ⟨y,j,e,e2 _⟩
 have I6:∀j,j≠k->(jU l (-1)≠(j:Int))->(a.put n id dr top).du[j]? =a.du[j]? :=by
  intro j hj HU;rw[hS];split
  ·exact u7 (λe=>hj e.symm)
  ·rcases hlo with e|⟨y,i,_,e⟩
   ·contradiction
   ·rw[cY (by omega),u7 (λe=>hj e.symm)]
 have BV:(a.put n id dr top).du[k]? =ba x:=by
  rw[hS];split
  ·exact qj
  ·rcases hlo with e|⟨y,i,e1,e⟩
   ·contradiction
   ·have:i≠k:=by rintro rfl;exact o7 (by rw[e1];simp)
    rw[cY (by omega)];exact qj
 have ry:∀j,j≠k->((a.put n id dr top).fg j).pn=(a.fg j).pn/\((a.put n id dr top).fg j).used=(a.fg j).used/\((a.put n id dr top).fg j).dr=(a.fg j).dr:=by
  intro j hj;by_cases c:jU l (-1)=(j:Int)
  ·have e:(a.put n id dr top).du=(a.du.set k x).modify j λs=>{s with back:=k}:=by
    rw[hS,ez (by omega),c];rfl
   by_cases Fg:j<a.du.length
   ·obtain⟨s,hs⟩:=zZ Fg;have h1:(a.put n id dr top).du[j]? =ba {s with back:=k}:=by rw[e];exact JJ (by rw[u7 (λe=>hj e.symm)];exact hs)
    rw[x4 h1,x4 hs];exact⟨rfl,rfl,rfl⟩
   ·have h1:(a.put n id dr top).du[j]? =bc:=ui (by rw[e];simpa using Fg);have h2:a.du[j]? =bc:=ui oM;rw[dv.fg,dv.fg,mu,mu,h1,h2];exact⟨rfl,rfl,rfl⟩
  ·have:=I6 j hj c;rw[dv.fg,dv.fg,mu,mu,this];exact⟨rfl,rfl,rfl⟩
 have C6:(a.put n id dr top).fg k=x:=x4 BV;have EF:∀j,((a.put n id dr top).fg j).pn=if j=k then⟨k,id,dr,top⟩else(a.fg j).pn:=by
  intro j;split
  ·rename_i e;rw[e,C6,hx];rfl
  ·rename_i e;exact(ry j e).1
 have gQ:∀{m:Nat} {l':List Nat},(Q.set n (l++[k]))[m]? =ba l'->(m=n/\l'=l++[k])\/(m≠n/\Q[m]? =ba l'):=by
  intro m l' hm;exact mE hm
 have MA:yq (a.put n id dr top).du n (-1) (l++[k]) (-1):=by
  rw[NW];refine⟨?_,⟨x,BV,?_⟩,trivial⟩
  ·rcases vR l with e|⟨y,j,e,e2⟩
   ·subst e;trivial
   ·have h0:=h.sg n l hl;have qz:=h.nd n l hl;rw[hS,ez (by rw[e2];omega),e2,ot];rw[e]at h0 qz o7 ⊢;have hd:=Au.1 qz;refine z7x (k:Int) (λhj=>hd.2.2 j hj j iX rfl) (t:= -1) ?_;exact uL (λi hi=>u7 (λe=>o7 (e▸hi))) h0
  ·rw[hx];exact⟨rfl,rfl,rfl,rfl,rfl,Z9,hq.2⟩
 refine⟨k,hk,oY,HT,Md,⟨⟨?_,?_,?_,?_,?_,?_,?_⟩,?_⟩,EF,hF⟩
 ·rw[hS];split<;>simp[hlen]
 ·rw[Mi];simp[h.ql]
 ·intro m l' hm;rcases gQ hm with⟨rfl,rfl⟩|⟨e,hm⟩
  ·rw[Mi,cQ (by rw[h.ql];exact FV),mU];have:(a.put m id dr top).oV (l++[k])=a.oV l+dr:=by
    rw[dv.oV,jk,J0];have e1:l.map (λk=>((a.put m id dr top).fg k).dr)=l.map λk=>(a.fg k).dr:=uc λj hj=>(ry j (λe=>o7 (e▸hj))).2.2
    rw[e1];simp only[jf,Bs,qc,List.sum_nil,C6];rw[hx,dv.oV];dsimp only;omega
   rw[this];simp[jU]
  ·rw[Mi,u7 (λc=>e c.symm),h.q m l' hm,nD];intro j hj;exact(ry j (λe=>Md m l' hm (e▸hj))).2.2.symm
 ·intro m l' hm;rcases gQ hm with⟨rfl,rfl⟩|⟨e,hm⟩
  ·exact MA
  ·refine uL (λj hj=>I6 j (λe=>Md m l' hm (e▸hj)) λc=> ?_) (h.sg m l' hm);rcases hlo with e2|⟨y,i,e1,e2⟩
   ·omega
   ·have:i=j:=by omega
    exact e (h.toyw.one hm hl hj (by rw[e1];simp[this]))
 ·intro m l' hm;rcases gQ hm with⟨rfl,rfl⟩|⟨e,hm⟩
  ·refine Au.2 ⟨h.nd m l hl,by simp,?_⟩;rintro i hi j hj rfl;rw[ua.1 hj]at hi;exact o7 hi
  ·exact h.nd m l' hm
 ·intro j s hj hs;by_cases e:j=k
  ·exact⟨n,l++[k],cQ FV,by rw[e];simp⟩
  ·have hu:(a.fg j).used=au:=by rw[<- (ry j e).2.1,x4 hj];exact hs
   have Fg:j<a.du.length:=by
    have:=(jm.1 hj).1;rw[hS]at this;split at this<;>simpa using this
   obtain⟨s',iP⟩:=zZ Fg;rw[x4 iP]at hu;obtain⟨m,l',hm,Sn⟩:=h.us j s' iP hu;by_cases em:m=n
   ·subst em;rw[hl]at hm;cases hm;exact⟨m,l++[k],cQ FV,yo _ Sn⟩
   ·exact⟨m,l',by rw[u7 (λc=>em c.symm)];exact hm,Sn⟩
 ·have Mc:(a.put n id dr top).du.map (·.used)=(a.du.set k x).map (·.used):=by
   rw[hS];split
   ·rfl
   ·exact NS (g:=λs:Slot=>s.used) (f:=λs:Slot=>{s with back:=k}) (λ_=>rfl) _ _
  have:=zUk (x:=x) Ay;rw[HT,ez (by decide),show x.used=au by rw[hx],fh rfl]at this;rw[Mc,hF,uv];omega
 ·intro m l' hm j hj;rcases gQ hm with⟨rfl,rfl⟩|⟨e,hm⟩
  ·rcases oK.1 hj with hj|hj
   ·rw[(ry j (λe=>o7 (e▸hj))).2.2];exact h.pos m l hl j hj
   ·rw[ua.1 hj,C6,hx];exact hq.1
  ·rw[(ry j (λe=>Md m l' hm (e▸hj))).2.2];exact h.pos m l' hm j hj
def Px (a:dv) (k:Nat) (q:Int) (j:Nat) (hk:k<a.du.length):(a.less k q).fg j=if j=k then{a.fg j with dr:=(a.fg j).dr-q}else a.fg j:=by
 split
 ·rename_i e;subst e;obtain⟨s,hs⟩:=zZ hk;rw[x4 hs,x4 (a:=a.less j q) (JJ hs)]
 ·rename_i e;show(a.du.modify k _).getD j iH=a.du.getD j iH;rw[mu,cY (λc=>e c.symm),mu]
def dv.yw.less {a:dv} {Q:Q_ Nat} (h:a.yw Q) {n k:Nat} {l:List Nat} (hl:Q[n]? =ba l) (hk:k∈l) {q:Int} (hq:0<=q/\q<=(a.fg k).dr):(a.less k q).yw Q:=by
 obtain⟨oY,⟨p,t,hs⟩,Ay⟩:=h.mem hl hk;have o7:k<a.du.length:=by rw[h.len];exact oY
 have hqt:(a.fg k).queue.toNat=n:=by rw[hs.queue];exact ot n
 have hm:∀(j:Nat) (s:Slot),a.du[j]? =ba s->∃s',(a.less k q).du[j]? =ba s'/\s'.used=s.used/\s'.n=s.n/\s'.queue=s.queue/\s'.ahead=s.ahead/\s'.back=s.back:=by
  intro j s hj;by_cases e:k=j
  ·subst e;exact⟨_,JJ hj,rfl,rfl,rfl,rfl,rfl⟩
  ·exact⟨s,by rw[show(a.less k q).du=a.du.modify k _ from rfl,cY e];exact hj,rfl,rfl,rfl,rfl,rfl⟩
 have yt:(a.less k q).du.length=250:=by simpa[dv.less]using h.len
 have FR:(a.less k q).dy=a.dy.modify n λx=>{x with total:=bu.wrap (x.total-q)}:=by rw[dv.less,hqt]
 have Mc:(a.less k q).du.map (·.used)=a.du.map (·.used):=NS (g:=λs:Slot=>s.used) (f:=λs:Slot=>{s with dr:=s.dr-q}) (λ_=>rfl) _ _
 refine⟨yt,by rw[FR];simpa using h.ql,λm l' Ax=> ?_,λm l' Ax=> ?_,h.nd,λj s hj hu=> ?_,by rw[Mc];exact h.free⟩
 ·by_cases e:n=m
  ·subst e;rw[hl]at Ax;cases Ax;rw[FR,JJ (h.q n l hl)];have CU:=h.sum hl;have e2:(a.less k q).oV l=a.oV l-q:=by
    rw[dv.oV,dv.oV,yDk (k:=k) (f:=λk=>(a.fg k).dr) (h.nd n l hl) hk]
    ·rw[Px a k q k o7,fh rfl];dsimp only;omega
    ·intro j _ hj;rw[Px a k q j o7,ez hj]
   have h1:=hs.q2;rw[e2];dsimp only;rw[iw (by omega)]
  ·rw[FR,cY e,h.q m l' Ax,nD];intro j hj;have:j≠k:=λc=>e (h.one hl Ax hk (c▸hj))
   rw[Px a k q j o7,ez this]
 ·refine Zh (λj hj s iP=> ?_) (h.sg m l' Ax);obtain⟨s',q0,q1,q2,q3,q4,q5⟩:=hm j s iP;refine⟨s',q0,q1,q2,q3,q4,q5,?_⟩;have e:=x4 q0;rw[<- e,Px a k q j o7];obtain⟨_,⟨_,_,h2⟩,h3⟩:=h.mem Ax hj;have:=h2.q1;have:=h2.q2;split
  ·rename_i c;subst c;dsimp only;omega
  ·omega
 ·have gu:=(jm.1 hj).1;rw[yt,<- h.len]at gu;obtain⟨s0,h0⟩:=zZ gu;obtain⟨s',q0,q1,_⟩:=hm j s0 h0;rw[hj]at q0;cases q0;exact h.us j s0 h0 (by rw[<- q1];exact hu)
def dv.yw.drop {a:dv} {Q:Q_ Nat} (h:a.yw Q) {n k:Nat} {l1 l2:List Nat} (hl:Q[n]? =ba (l1++k::l2)) (h0:(a.fg k).dr=0):
 (a.iL k).yw (Q.set n (l1++l2))/\(∀j,j≠k->((a.iL k).fg j).pn=(a.fg j).pn/\((a.iL k).fg j).used=(a.fg j).used/\((a.iL k).fg j).dr=(a.fg j).dr)/\(a.iL k).fg k=iH/\(a.iL k).free=a.free+1:=by
 have hkm:k∈l1++k::l2:=by simp
 have FV:=(jm.1 hl).1;obtain⟨oY,_,Ay⟩:=h.mem hl hkm;have hlen:=h.len;have o7:k<a.du.length:=by omega
 have Kd:=h.sg n _ hl;have qz:=h.nd n _ hl;have hd:=Au.1 qz;have AA:=ym.1 hd.2.1;have k1:k∉l1:=λhk=>hd.2.2 k hk k iX rfl
 have k2:k∉l2:=AA.1;rw[NW]at Kd;obtain⟨g1,⟨s,ud,hs⟩,g2⟩:=Kd;have es:=x4 ud;have eqn:(a.dy.getD s.queue.toNat mW)=⟨uS (l1++k::l2) (-1),jU (l1++k::l2) (-1),a.oV (l1++k::l2),(l1++k::l2).length⟩:=by
  rw[hs.queue,ot];exact zX (h.q n _ hl)
 have uv:=h.free;have wv:=yHx (sl:=a.du);have OI:=h.short hl;obtain⟨Aw,zi⟩:∃Aw,Aw=if jU l1 (-1)= -1 then a.du else a.du.modify (jU l1 (-1)).toNat λx=>{x with back:=uS l2 (-1)}:=⟨_,rfl⟩
 obtain⟨Dr,zh⟩:∃Dr,Dr=if uS l2 (-1)= -1 then Aw else Aw.modify (uS l2 (-1)).toNat λx=>{x with ahead:=jU l1 (-1)}:=⟨_,rfl⟩
 have hS:(a.iL k).du=Dr.set k iH:=by
  simp only[dv.iL,es,hs.ahead,hs.back];rw[zh,zi]
 have Mi:(a.iL k).dy=a.dy.set n ⟨uS (l1++l2) (-1),jU (l1++l2) (-1),a.oV (l1++l2),(l1++l2).length⟩:=by
  simp only[dv.iL,es,eqn,hs.ahead,hs.back];rw[hs.queue,ot];have el:(l1++k::l2).length=(l1++l2).length+1:=by simp;omega
  have eq:a.oV (l1++k::l2)=a.oV (l1++l2):=by
   rw[dv.oV,dv.oV,jk,J0,jk,J0,jf,qc,h0];omega
  rw[el]at OI ⊢;rw[iw (by omega),eq];congr 2
  ·cases l1 with
   |nil=>simp[jU,zMm,uS]
   |cons y ys=>
    rw[ez (by rw[tD];simp)];rfl
  ·rcases vR l2 with e|⟨x,j,e,e2⟩
   ·subst e;simp[uS,mU,jU]
   ·have:l2≠[]:=by rw[e];simp
    rw[ez (λc=>this ((zWn l2).1 c)),mU,mU,jU,e2,e2]
  ·simp
 have hF:(a.iL k).free=a.free+1:=by
  simp only[dv.iL];rw[iw (by omega)]
 have CM:jU l1 (-1)= -1\/∃(y:List Nat) (j:Nat),l1=y++[j]/\jU l1 (-1)=(j:Int):=by
  rcases vR l1 with e|⟨y,j,e,e2⟩
  ·exact .inl ((tD l1).2 e)
  ·exact .inr ⟨y,j,e,e2 _⟩
 have Cm:uS l2 (-1)= -1\/∃(y:List Nat) (j:Nat),l2=j::y/\uS l2 (-1)=(j:Int):=by
  cases l2 with
  |nil=>exact .inl rfl
  |cons j y=>exact .inr ⟨y,j,rfl,rfl⟩
 have I6:∀j,j∉l1->j∉l2->j≠k->(a.iL k).du[j]? =a.du[j]? :=by
  intro j h1 h2 h3;rw[hS,u7 (λe=>h3 e.symm),zh];have e1:Aw[j]? =a.du[j]? :=by
   rw[zi];split
   ·rfl
   ·rcases CM with e|⟨y,i,e,e2⟩
    ·contradiction
    ·rw[cY];rw[e2,ot];rintro rfl;exact h1 (by rw[e];simp)
  split
  ·exact e1
  ·rcases Cm with e|⟨y,i,e,e2⟩
   ·contradiction
   ·rw[cY,e1];rw[e2,ot];rintro rfl;exact h2 (by rw[e];simp)
 have ry:∀j,j≠k->((a.iL k).fg j).pn=(a.fg j).pn/\((a.iL k).fg j).used=(a.fg j).used/\((a.iL k).fg j).dr=(a.fg j).dr:=by
  intro j hj;have m1:∀(sl:List Slot) (i:Nat) (b:Int),((sl.modify i λx=>{x with back:=b}).getD j iH).pn=(sl.getD j iH).pn/\((sl.modify i λx=>{x with back:=b}).getD j iH).used=(sl.getD j iH).used/\((sl.modify i λx=>{x with back:=b}).getD j iH).dr=(sl.getD j iH).dr:=by
   intro sl i b;rw[mu,mu,FI];cases sl[j]? with
   |none=>exact⟨rfl,rfl,rfl⟩
   |some s=>by_cases e:i=j<;>simp[e,Slot.pn]
  have m2:∀(sl:List Slot) (i:Nat) (b:Int),((sl.modify i λx=>{x with ahead:=b}).getD j iH).pn=(sl.getD j iH).pn/\((sl.modify i λx=>{x with ahead:=b}).getD j iH).used=(sl.getD j iH).used/\((sl.modify i λx=>{x with ahead:=b}).getD j iH).dr=(sl.getD j iH).dr:=by
   intro sl i b;rw[mu,mu,FI];cases sl[j]? with
   |none=>exact⟨rfl,rfl,rfl⟩
   |some s=>by_cases e:i=j<;>simp[e,Slot.pn]
  have e0:(a.iL k).fg j=Dr.getD j iH:=by
   rw[dv.fg,hS,mu,u7 (λe=>hj e.symm),mu]
  have e1:(Aw.getD j iH).pn=(a.fg j).pn/\(Aw.getD j iH).used=(a.fg j).used/\(Aw.getD j iH).dr=(a.fg j).dr:=by
   rw[zi];split
   ·exact⟨rfl,rfl,rfl⟩
   ·exact m1 _ _ _
  have e2:(Dr.getD j iH).pn=(Aw.getD j iH).pn/\(Dr.getD j iH).used=(Aw.getD j iH).used/\(Dr.getD j iH).dr=(Aw.getD j iH).dr:=by
   rw[zh];split
   ·exact⟨rfl,rfl,rfl⟩
   ·exact m2 _ _ _
  rw[e0];exact⟨e2.1.trans e1.1,e2.2.1.trans e1.2.1,e2.2.2.trans e1.2.2⟩
 have hl1:Aw.length=250:=by rw[zi];split<;>simp[hlen]
 have Ff:Dr.length=250:=by rw[zh];split<;>simp[hl1]
 have BV:(a.iL k).du[k]? =ba iH:=by rw[hS];exact cQ oM
 have MA:yq (a.iL k).du n (-1) (l1++l2) (-1):=by
  rw[hS,NW];constructor
  ·--the part ahead
   refine uL (sl:=Dr) (λj hj=>u7 (λe=>k1 (e▸hj))) ?_;have f1:yq Aw n (-1) l1 (uS l2 (-1)):=by
    rcases vR l1 with e|⟨y,j,e,e2⟩
    ·subst e;trivial
    ·rw[zi,ez (by rw[e2];omega),e2,ot];subst e;have hd3:=Au.1 hd.1;exact z7x _ (λhj=>hd3.2.2 j hj j iX rfl) g1
   refine uL (λj hj=> ?_) f1;rw[zh];split
   ·rfl
   ·rcases Cm with e|⟨y,i,e,e2⟩
    ·contradiction
    ·refine cY ?_;rw[e2,ot];rintro rfl;exact hd.2.2 i hj i (ji _ (by rw[e];simp)) rfl
  ·--the part behind
   refine uL (sl:=Dr) (λj hj=>u7 (λe=>k2 (e▸hj))) ?_;have f1:yq Aw n k l2 (-1):=by
    refine uL (λj hj=> ?_) g2;rw[zi];split
    ·rfl
    ·rcases CM with e|⟨y,i,e,e2⟩
     ·contradiction
     ·refine cY ?_;rw[e2,ot];rintro rfl;exact hd.2.2 i (by rw[e];simp) i (ji _ hj) rfl
   rcases Cm with e|⟨y,j,e,e2⟩
   ·rw[(zWn l2).1 e];trivial
   ·rw[zh,ez (by rw[e2];omega),e2,ot];rw[e]at f1 AA ⊢;exact yLk _ (ym.1 AA.2).1 f1
 refine⟨⟨?_,?_,?_,?_,?_,?_,?_⟩,ry,x4 BV,hF⟩
 ·rw[hS,qm];exact Ff
 ·rw[Mi];simp[h.ql]
 ·intro m l' hm;rcases mE hm with⟨rfl,rfl⟩|⟨e,hm⟩
  ·rw[Mi,cQ (by rw[h.ql];exact FV)];congr 2;refine(nD λj hj=>(ry j λe=> ?_).2.2).symm;subst e;rcases oK.1 hj with hj|hj
   ·exact k1 hj
   ·exact k2 hj
  ·rw[Mi,u7 (λc=>e c.symm),h.q m l' hm];congr 2;refine(nD λj hj=>(ry j λe2=> ?_).2.2).symm;subst e2;exact e (h.one hm hl hj hkm)
 ·intro m l' hm;rcases mE hm with⟨rfl,rfl⟩|⟨e,hm⟩
  ·exact MA
  ·refine uL (λj hj=>I6 j ?_ ?_ ?_) (h.sg m l' hm)
   ·exactλc=>e (h.one hm hl hj (yo _ c))
   ·exactλc=>e (h.one hm hl hj (zu _ (ji _ c)))
   ·rintro rfl;exact e (h.one hm hl hj hkm)
 ·intro m l' hm;rcases mE hm with⟨rfl,rfl⟩|⟨e,hm⟩
  ·refine Au.2 ⟨hd.1,AA.2,λi hi j hj=>hd.2.2 i hi j (ji _ hj)⟩
  ·exact h.nd m l' hm
 ·intro j s' hj hu;have So:j≠k:=by
   rintro rfl;rw[BV]at hj;cases hj;cases hu
  have hu2:(a.fg j).used=au:=by rw[<- (ry j So).2.1,x4 hj];exact hu
  have Fg:j<a.du.length:=by
   have:=(jm.1 hj).1;rw[hS,qm]at this;omega
  obtain⟨s0,X2⟩:=zZ Fg;rw[x4 X2]at hu2;obtain⟨m,l',hm,Sn⟩:=h.us j s0 X2 hu2;by_cases em:m=n
  ·subst em;rw[hl]at hm;cases hm;refine⟨m,_,cQ FV,?_⟩;rcases oK.1 Sn with hj|hj
   ·exact yo _ hj
   ·rcases jx.1 hj with e|hj
    ·exact absurd e So
    ·exact zu _ hj
  ·exact⟨m,l',by rw[u7 (λc=>em c.symm)];exact hm,Sn⟩
 ·have Mc:(a.iL k).du.map (·.used)=(a.du.set k iH).map (·.used):=by
   have e1:Dr.map (·.used)=a.du.map (·.used):=by
    have f2:Dr.map (·.used)=Aw.map (·.used):=by
     rw[zh];split
     ·rfl
     ·exact NS (g:=λs:Slot=>s.used) (f:=λs:Slot=>{s with ahead:=jU l1 (-1)}) (λ_=>rfl) _ _
    have f1:Aw.map (·.used)=a.du.map (·.used):=by
     rw[zi];split
     ·rfl
     ·exact NS (g:=λs:Slot=>s.used) (f:=λs:Slot=>{s with back:=uS l2 (-1)}) (λ_=>rfl) _ _
    rw[f2,f1]
   rw[hS,ao,e1,ao]
  have:=zUk (x:=iH) ud;rw[hs.used,fh rfl,show iH.used=av from rfl,ez (by decide)]at this;rw[Mc,hF,uv];omega
def dv.Wf.take {a:dv} {Q:Q_ Nat} (h:a.Wf Q) {n k:Nat} {l:List Nat} (hl:Q[n]? =ba l) (hk:k∈l) {q:Int} (hq:1<=q/\q<=(a.fg k).dr):
 (a.gw k q).2=0/\(∀j,j≠k->((a.gw k q).1.fg j).pn=(a.fg j).pn/\((a.gw k q).1.fg j).used=(a.fg j).used)/\
   (if(a.fg k).dr=q then(a.gw k q).1.Wf (Q.set n (l.erase k))/\(a.gw k q).1.fg k=iH/\(a.gw k q).1.free=a.free+1
    else(a.gw k q).1.Wf Q/\(a.gw k q).1.fg k={a.fg k with dr:=(a.fg k).dr-q}/\(a.gw k q).1.free=a.free):=by
 obtain⟨oY,⟨p,t,hs⟩,Ay⟩:=h.toyw.mem hl hk;have o7:k<a.du.length:=by rw[h.len];exact oY
 have hu:a.iy k=au:=by
  simp only[dv.iy,lr,tn];refine⟨oM,oM,?_⟩;rw[ot];exact hs.used
 have K0:=h.toyw.less hl hk (q:=q) oM;have ta:=Px a k q;rw[dv.gw,ez (by rw[hu];decide),ot,ez (by omega)];by_cases e:(a.fg k).dr=q
 ·rw[fh e,fh e];obtain⟨l1,l2,rfl⟩:=List.append_of_mem hk;have qz:=h.nd n _ hl;have hd:=Au.1 qz;have k1:k∉l1:=λhk=>hd.2.2 k hk k iX rfl
  obtain⟨d1,d2,d3,d4⟩:=K0.drop hl (by rw[ta k o7,fh rfl];dsimp only;omega);have ee:(l1++k::l2).erase k=l1++l2:=by rw[List.erase_append_right _ k1,List.erase_cons_head]
  refine⟨rfl,λj hj=> ?_,?_,d3,d4⟩
  ·have:=d2 j hj;rw[ta j o7,ez hj]at this;exact⟨this.1,this.2.1⟩
  ·rw[ee];refine⟨d1,λm l' hm j hj=> ?_⟩;have HU:j≠k/\∃XT,Q[m]? =ba XT/\j∈XT:=by
    have AA:=ym.1 hd.2.1;rcases mE hm with⟨rfl,rfl⟩|⟨e3,hm⟩
    ·refine⟨?_,_,hl,?_⟩
     ·rintro rfl;rcases oK.1 hj with hj|hj
      ·exact k1 hj
      ·exact AA.1 hj
     ·rcases oK.1 hj with hj|hj
      ·exact yo _ hj
      ·exact zu _ (ji _ hj)
    ·refine⟨?_,_,hm,hj⟩;rintro rfl;exact e3 (h.toyw.one hm hl hj hk)
   obtain⟨hj3,XT,hm2,hj4⟩:=HU;have:=(d2 j hj3).2.2;rw[ta j o7,ez hj3]at this;dsimp only;rw[this];exact h.pos m XT hm2 j hj4
 ·rw[ez e,ez e];refine⟨rfl,λj hj=> ?_,⟨K0,λm l' hm j hj=> ?_⟩,?_,rfl⟩
  ·dsimp only;rw[ta j o7,ez hj];exact⟨rfl,rfl⟩
  ·dsimp only;rw[ta j o7];split
   ·rename_i c;subst c;dsimp only;omega
   ·exact h.pos m l' hm j hj
  ·dsimp only;rw[ta k o7,fh rfl]
def xM {α β:Type} {f g:α->List β}:∀{l:List α},(∀x∈l,f x=g x)->l.flatMap f=l.flatMap g
 |[],_=>rfl
 |x::l,h=>by rw[vi,vi,h x iX,xM λy hy=>h y (ji _ hy)]
def JG {α β γ:Type} {f:α->List β} {g:β->γ}:∀(l:List α),(l.flatMap f).map g=l.flatMap λx=>(f x).map g
 |[]=>rfl
 |x::l=>by rw[vi,vi,jk,JG l]
def z8p {α β:Type} {f:α->List β}:∀{l:List α},(∀x∈l,f x≠[])->l.length<=(l.flatMap f).length
 |[],_=>ju 0
 |x::l,h=>by
  have:=z8p (l:=l) λy hy=>h y (ji _ hy)
  have:=List.length_pos_iff.2 (h x iX);rw[vi,iv,iF];omega
def zKu {α:Type} [DecidableEq α]:∀{l m:List α},l.Nodup->(∀x∈l,x∈m)->l.length<=m.length
 |[],_,_,_=>mn _
 |x::l,m,h,hs=>by
  have hd:=ym.1 h;have hx:=hs x iX;have:=zKu (l:=l) (m:=m.erase x) hd.2 λy hy=>by
   have jy:y≠x:=by rintro rfl;exact hd.1 hy
   exact(List.mem_erase_of_ne jy).2 (hs y (ji _ hy))
  rw[am hx]at this;have:=List.length_pos_of_mem hx;rw[iF];omega
def yLq {l:List Int} (h:l.Nodup) (hr:∀x∈l,0<=x/\x<l.length) {n:Nat} (hn:n<l.length):(n:Int)∈l:=by
 apply Classical.byContradiction;intro hx;have qz:((n:Int)::l).Nodup:=ym.2 ⟨hx,h⟩;have:=zKu (m:=(aq l.length).map λk:Nat=>(k:Int)) qz λy hy=>by
  rw[np];rcases jx.1 hy with rfl|hy
  ·exact⟨n,Cd.2 hn,rfl⟩
  ·have:=hr y hy;exact⟨y.toNat,Cd.2 oM,oM⟩
 simp at this;omega
def UL {α β:Type} {l:List (α×β)} (h:(l.map (·.1)).Nodup) {k:α} {x y:β} (hx:(k,x)∈l) (hy:(k,y)∈l):x=y:=by
 induction l with
 |nil=>cases hx
 |cons p l ih=>
  rw[jf,ym]at h;rcases jx.1 hx with ex|hx<;>rcases jx.1 hy with ey|hy
  ·rw[<- ex]at ey;exact(Prod.mk.inj ey).2.symm
  ·exact absurd (si (f:=(·.1)) hy) (by rw[<- ex]at h;exact h.1)
  ·exact absurd (si (f:=(·.1)) hx) (by rw[<- ey]at h;exact h.1)
  ·exact ih h.2 hx hy
def P0:∀{l:List (Int×Place)} {k:Int} {x:Place},ld l k=ba x->(k,x)∈l
 |[],k,x,h=>by cases h
 |p::l,k,x,h=>by
  rw[ld,LV]at h;by_cases e:p.1=k
  ·rw[jo e]at h;simp only[wg,Option.some.injEq]at h;subst h;subst e;exact iX
  ·rw[jv e]at h;exact ji _ (P0 h)
def ZZ {l:List (Int×Place)} {k:Int} (h:ld l k=bc):k∉l.map (·.1):=by
 intro hk;obtain⟨⟨k',x⟩,hx,rfl⟩:=np.1 hk;rw[ld,Option.map_eq_none_iff,af]at h;have:=h _ hx;simp at this
def z3l:∀{l:List (Int×Place)} {k:Int} {x:Place},k∉l.map (·.1)->tT k x l=l++[(k,x)]
 |[],k,x,_=>rfl
 |p::l,k,x,h=>by
  rw[jf,jx,not_or]at h;rw[tT,ez h.1,z3l h.2];rfl
def xL (Q:Q_ Nat) (r:xY):List Nat:=Q.getD r.queue.toNat []
def yRk (s p:Int) (e:Eu):zJ:=⟨e.id,s,p,e.dr,e.top⟩
def uF (a:dv) (s p:Int) (k:Nat):zJ:=yRk s p (a.fg k).pn
def dq.ie (b:dq) (Q:Q_ Nat) (s:Int) (r:xY):List zJ:=(xL Q r).map (uF b.a s r.dm)
def dq.iu (b:dq) (Q:Q_ Nat) (s:Int):List zJ:=(b.dz s).flatMap (b.ie Q s)
def dq.flat (b:dq) (Q:Q_ Nat):List zJ:=b.iu Q 1++b.iu Q 2
def uR (a:dv) (s p:Int) (k:Nat):Int×Place:=((a.fg k).id,⟨s,p,k⟩)
def dq.ml (b:dq) (Q:Q_ Nat) (s:Int):List (Int×Place):=(b.dz s).flatMap λr=>(xL Q r).map (uR b.a s r.dm)
def dq.qs (b:dq):List Int:=b.fv.map (·.queue)++b.fc.map (·.queue)++b.spare
structure dq.Core (b:dq) (Q:Q_ Nat) (hole:Int):Prop where
 wf:b.a.Wf Q
 xk:∀s,s=1\/s=2->(b.dz s).Pairwise λr r'=>jl s r.dm r'.dm=au
 uj:∀q∈b.qs,0<=q/\q<Q.length
 nd:b.qs.Nodup
 ql:b.qs.length=Q.length
 ne:∀s,s=1\/s=2->∀r∈b.dz s,r.queue≠hole->xL Q r≠[]
 sp:∀q∈b.spare,Q.getD q.toNat []=[]
 at_:b.at_.Perm (b.ml Q 1++b.ml Q 2)
 ids:((b.flat Q).map (·.id)).Nodup
 qb:Q.length<=250
structure dq.BS (b:dq) (L:List zJ):Prop where
 fl:∀o∈L,o.top=(b.my o.side && decide (o.id=b.jc o.side))
 th:∀s,s=1\/s=2->b.my s=au->∃o∈L,o.side=s/\o.id=b.jc s
structure dq.ga (b:dq) (L:List zJ):Prop where
 ex:∃Q,b.Core Q (-1)/\b.BS L/\L=b.flat Q
def nC (b:dq) (Q:Q_ Nat) (s:Int):(b.ml Q s).map (·.1)=(b.iu Q s).map (·.id):=by
 rw[dq.ml,dq.iu,JG,JG];refine xM λr _=> ?_
 rw[dq.ie,wb,wb];rfl
def dq.Core.Ad {b:dq} {Q:Q_ Nat} {h:Int} (c:b.Core Q h):(b.at_.map (·.1)).Perm ((b.flat Q).map (·.id)):=by
 have:=c.at_.map (·.1)
 rw[jk,nC,nC,<- jk]at this;exact this
def dq.Core.keys {b:dq} {Q:Q_ Nat} {h:Int} (c:b.Core Q h):(b.at_.map (·.1)).Nodup:=c.Ad.nodup_iff.2 c.ids
def dq.Core.len {b:dq} {Q:Q_ Nat} {h:Int} (c:b.Core Q h):b.at_.length=(b.flat Q).length:=by
 have:=c.Ad.length_eq;simpa using this
def dq.Core.FM {b:dq} {Q:Q_ Nat} {h:Int} (c:b.Core Q h) {s:Int} (hs:s=1\/s=2) {r:xY} (hr:r∈b.dz s) {k:Nat} (hk:k∈xL Q r):((b.a.fg k).id,(⟨s,r.dm,k⟩:Place))∈b.at_:=by
 refine c.at_.mem_iff.2 ?_;have hp:uR b.a s r.dm k∈b.ml Q s:=A8.2 ⟨r,hr,si hk⟩;rcases hs with rfl|rfl
 ·exact yo _ hp
 ·exact zu _ hp
def dq.Core.S6 {b:dq} {Q:Q_ Nat} {h:Int} (c:b.Core Q h) {id:Int} {x:Place} (hx:(id,x)∈b.at_):∃(k:Nat) (r:xY),(x.side=1\/x.side=2)/\r∈b.dz x.side/\k∈xL Q r/\x=⟨x.side,r.dm,k⟩/\(b.a.fg k).id=id:=by
 have:=c.at_.mem_iff.1 hx;rcases oK.1 this with hp|hp
 all_goals
  obtain⟨r,hr,hp⟩:=A8.1 hp;obtain⟨k,hk,e⟩:=np.1 hp;simp only[uR,Prod.mk.injEq]at e;obtain⟨e1,rfl⟩:=e;exact⟨k,r,by simp,hr,hk,rfl,e1⟩
def z5e {Q:Q_ Nat} {r:xY} (h:0<=r.queue/\r.queue<Q.length):Q[r.queue.toNat]? =ba (xL Q r):=by
 obtain⟨l,hl⟩:=zZ (l:=Q) (i:=r.queue.toNat) oM;rw[xL,zX hl,hl]
def g8 {b:dq} {s:Int} (hs:s=1\/s=2) {r:xY} (hr:r∈b.dz s):r.queue∈b.qs:=by
 rcases hs with rfl|rfl
 ·exact yo _ (yo _ (si (f:=(·.queue)) hr))
 ·exact yo _ (zu _ (si (f:=(·.queue)) hr))
def dq.Core.get {b:dq} {Q:Q_ Nat} {h:Int} (c:b.Core Q h) {s:Int} (hs:s=1\/s=2) {r:xY} (hr:r∈b.dz s):Q[r.queue.toNat]? =ba (xL Q r):=z5e (c.uj _ (g8 hs hr))
def DD (L:List zJ) (s:Int):List zJ:=L.map λo=>if o.side=s then{o with top:=av}else o
def NO (s x:Int):jl s x x=av:=by
 rw[jl];split<;>exact jv oM
def dq.Core.flag {b:dq} {Q:Q_ Nat} {h:Int} (c:b.Core Q h) {a':dv} (hw:a'.Wf Q) (hi:∀k,(a'.fg k).id=(b.a.fg k).id):({b with a:=a'}:dq).Core Q h:=by
 have e1:∀s,({b with a:=a'}:dq).ml Q s=b.ml Q s:=by
  intro s;refine xM λr _=>uc λk _=> ?_
  simp only[uR,hi]
 have e2:((({b with a:=a'}:dq).flat Q).map (·.id))=(b.flat Q).map (·.id):=by
  rw[dq.flat,dq.flat,jk,jk,<- nC,<- nC,<- nC,<- nC,e1,e1]
 exact⟨hw,c.xk,c.uj,c.nd,c.ql,c.ne,c.sp,by rw[e1,e1];exact c.at_,by rw[e2];exact c.ids,c.qb⟩
def y0x (a:dv) (n:Int) (t:Bool) (k:Nat):((a.mi n t).fg k).id=(a.fg k).id:=by
 rw[z2z];split<;>rfl
def dq.Core.iW {b:dq} {Q:Q_ Nat} {h:Int} (c:b.Core Q h) (s:Int):(b.iW s).Wf Q/\∀k,((b.iW s).fg k).id=(b.a.fg k).id:=by
 rw[dq.iW]
 repeat' split
 all_goals first|exact⟨c.wf,λ_=>rfl⟩|exact⟨c.wf.top _ _,λk=>y0x _ _ _ k⟩
def dq.Core.C9 {b:dq} {Q:Q_ Nat} {h:Int} (c:b.Core Q h) (ht:b.BS (b.flat Q)) {s:Int} (hs:s=1\/s=2):({b with a:=b.iW s}:dq).flat Q=DD (b.flat Q) s:=by
 have BC:∀{s':Int} (iP:s'=1\/s'=2) {r:xY} (hr:r∈b.dz s') {k:Nat} (hk:k∈xL Q r),(b.a.fg k).top=(b.my s' && decide ((b.a.fg k).id=b.jc s')):=by
  intro s' iP r hr k hk;have hm:uF b.a s' r.dm k∈b.flat Q:=by
   have:uF b.a s' r.dm k∈b.iu Q s':=A8.2 ⟨r,hr,si hk⟩;rcases iP with rfl|rfl
   ·exact yo _ this
   ·exact zu _ this
  exact ht.fl _ hm
 have key:∀{s':Int} (iP:s'=1\/s'=2) {r:xY} (hr:r∈b.dz s') {k:Nat} (hk:k∈xL Q r),((b.iW s).fg k).pn=if s'=s then{(b.a.fg k).pn with top:=av}else(b.a.fg k).pn:=by
  intro s' iP r hr k hk;have zk:=c.FM iP hr hk;have I1:=BC iP hr hk;have Ek:(b.a.fg k).top=av->(b.a.fg k).pn=if s'=s then{(b.a.fg k).pn with top:=av}else(b.a.fg k).pn:=by
   intro e;split
   ·rw[Slot.pn,e]
   ·rfl
  rw[dq.iW];by_cases hh:b.my s=au
  ·rw[fh hh];cases hg:ld b.at_ (b.jc s)with
   |none=>
    dsimp only;by_cases e:s'=s
    ·subst e;refine Ek ?_;rw[I1,hh,As];refine jv λe2=> ?_
     rw[<- e2]at hg;exact ZZ hg (si (f:=(·.1)) zk)
    ·rw[ez e]
   |some o=>
    dsimp only;obtain⟨k',r',yu,xo,oY,ho,Bg⟩:=c.S6 (P0 hg);by_cases es:o.side=s
    ·rw[fh es,z2z];have CL:o.slot=(k':Int):=by rw[ho]
     by_cases ek:k=k'
     ·subst ek;have hu:b.a.iy o.slot=au:=by
       obtain⟨_,⟨_,_,h2⟩,h3⟩:=c.wf.toyw.mem (c.get iP hr) hk;have gu:=(jm.1 h3).1;simp only[dv.iy,lr,tn,CL,ot];exact⟨oM,oM,h2.used⟩
      rw[fh ⟨hu,by rw[CL];rfl⟩];have:=c.FM yu xo oY;have e3:=UL c.keys zk this;have e4:s'=s:=by
       have:=congrArg Place.side e3;dsimp only at this;rw[this,es]
      rw[fh e4];rfl
     ·rw[ez (λe=>ek (by have:=e.2;rw[CL]at this;simpa using this))];by_cases e:s'=s
      ·subst e;refine Ek ?_;rw[I1,hh,As];refine jv λe2=>ek ?_
       have Kf:=c.FM yu xo oY;rw[Bg,<- e2]at Kf;have e3:=UL c.keys zk Kf;have:=congrArg Place.slot e3;dsimp only at this;omega
      ·rw[ez e]
    ·rw[ez es];by_cases e:s'=s
     ·subst e;refine Ek ?_;rw[I1,hh,As];refine jv λe2=>es ?_
      have Kf:=P0 hg;rw[<- e2]at Kf;have e3:=UL c.keys zk Kf;rw[<- e3]
     ·rw[ez e]
  ·rw[ez hh];by_cases e:s'=s
   ·subst e;refine Ek ?_;have:b.my s'=av:=i9 hh
    rw[I1,this,Di]
   ·rw[ez e]
 have side:∀s',s'=1\/s'=2->({b with a:=b.iW s}:dq).iu Q s'=DD (b.iu Q s') s:=by
  intro s' iP;rw[DD,dq.iu,dq.iu,JG];refine xM λr hr=> ?_
  rw[dq.ie,dq.ie,wb];refine uc λk hk=> ?_
  simp only[uF,co,key iP hr hk,yRk];by_cases e:s'=s
  ·rw[fh e];exact(fh e).symm
  ·rw[ez e];exact(ez e).symm
 rw[dq.flat,side 1 (.inl rfl),side 2 (.inr rfl),dq.flat,DD,DD,DD,jk]
def before (s p:Int) (o:zJ):Bool:=decide (o.side<s)||(decide (o.side=s) && !jl s p o.dm)
def fS (L:List zJ) (s p:Int):Bool:=L.all λo=> !decide (o.side=s)||jl s p o.dm
def Ie (L:List zJ) (s id p q:Int):List zJ:=
 let L1:=if fS L s p=au then DD L s else L
 L1.takeWhile (before s p)++⟨id,s,p,q,fS L s p⟩::L1.dropWhile (before s p)
def yQe {α:Type} {f:α->Bool}:∀{A B:List α},(∀x∈A,f x=au)->(∀x∈B,f x=av)->(A++B).takeWhile f=A/\(A++B).dropWhile f=B
 |[],[],_,_=>⟨rfl,rfl⟩
 |[],b::B,_,h=>by
  have:=h b iX;simp[this]
 |a::A,B,h,h2=>by
  obtain⟨i1,i2⟩:=yQe (A:=A) (B:=B) (λx hx=>h x (ji _ hx)) h2;have:=h a iX;rw[uh,List.takeWhile_cons,List.dropWhile_cons,this];simp[i1,i2]
def kA {b:dq} {Q:Q_ Nat} {s:Int} {r:xY} {o:zJ} (h:o∈b.ie Q s r):o.side=s/\o.dm=r.dm:=by
 obtain⟨k,_,rfl⟩:=np.1 h;exact⟨rfl,rfl⟩
def pA {b:dq} {Q:Q_ Nat} {s:Int} {o:zJ} (h:o∈b.iu Q s):o.side=s/\∃r∈b.dz s,o∈b.ie Q s r/\o.dm=r.dm:=by
 obtain⟨r,hr,ho⟩:=A8.1 h;exact⟨(kA ho).1,r,hr,ho,(kA ho).2⟩
structure Spl (s p:Int) (R1 R2:List xY):Prop where
 a:∀r∈R1,jl s r.dm p=au
 b:∀r∈R2,jl s p r.dm=au
def z3f {s x y:Int} (h:jl s x y=au):jl s y x=av:=by
 rw[jl]at h ⊢;split at h
 ·rename_i e;rw[fh e];have:=rf h;exact jv oM
 ·rename_i e;rw[ez e];have:=rf h;exact jv oM
def zWx {s x y z:Int} (h:jl s x y=au) (h2:jl s y z=au):jl s x z=au:=by
 rw[jl]at h h2 ⊢;split at h
 ·rename_i e;rw[fh e]at h2 ⊢;have:=rf h;have:=rf h2;exact jo oM
 ·rename_i e;rw[ez e]at h2 ⊢;have:=rf h;have:=rf h2;exact jo oM
def yIw {s x y:Int} (h:jl s x y=av) (jy:x≠y):jl s y x=au:=by
 rw[jl]at h ⊢;split at h
 ·rename_i e;rw[fh e];have:=L3 h;exact jo oM
 ·rename_i e;rw[ez e];have:=L3 h;exact jo oM
def zGg {s p:Int} {l:List xY} (hs:l.Pairwise λr r'=>jl s r.dm r'.dm=au):
 (∀r∈l.take (yB s l p),jl s r.dm p=au)/\
 (if jR s l p=au then ∃r,l[yB s l p]? =ba r/\r.dm=p/\∀r'∈l.drop (yB s l p+1),jl s p r'.dm=au
  else ∀r'∈l.drop (yB s l p),jl s p r'.dm=au):=by
 have e1:l.take (yB s l p)=l.takeWhile λr=>jl s r.dm p:=by
  rw[yB];have h:=JY (l₁:=l.takeWhile λr=>jl s r.dm p) (l₂:=l.dropWhile λr=>jl s r.dm p);rwa [xQq]at h
 have e2:l.drop (yB s l p)=l.dropWhile λr=>jl s r.dm p:=by
  have h:=Bb (yB s l p) l;have h2:=xQq (p:=λr:xY=>jl s r.dm p) (l:=l);rw[e1]at h;exact List.append_cancel_left (h.trans h2.symm)
 refine⟨λr hr=> ?_,?_⟩
 ·rw[e1]at hr;exact Ef.1 List.all_takeWhile r hr
 have hd:∀r,l[yB s l p]? =ba r->jl s r.dm p=av:=by
  intro r hr;have h0:(l.drop (yB s l p))[0]? =ba r:=by rw[Bu];exact hr
  rw[e2]at h0;cases hdw:l.dropWhile λr=>jl s r.dm p with
  |nil=>rw[hdw]at h0;cases h0
  |cons x y=>
   rw[hdw]at h0;cases h0;have:=List.head?_dropWhile_not (λr:xY=>jl s r.dm p) l;rw[hdw]at this;simpa using this
 have hpw:∀r r',l[yB s l p]? =ba r->r'∈l.drop (yB s l p+1)->jl s r.dm r'.dm=au:=by
  intro r r' hr ov;have gu:=(jm.1 hr).1;have:=List.Pairwise.sublist (List.drop_sublist (yB s l p) l) hs;rw[CH gu,yx,(jm.1 hr).2]at this;exact this.1 r' ov
 split
 ·rename_i hb;rw[jR]at hb;cases hr:l[yB s l p]? with
  |none=>rw[hr]at hb;cases hb
  |some r=>
   rw[hr]at hb;have hp:r.dm=p:=rf hb;exact⟨r,rfl,hp,λr' ov=>by rw[<- hp];exact hpw r r' hr ov⟩
 ·rename_i hb;intro r' ov;by_cases gu:yB s l p<l.length
  ·obtain⟨r,hr⟩:=zZ gu;rw[jR,hr]at hb;have hp:¬r.dm=p:=λe=>hb (jo e)
   have h1:=yIw (hd r hr) hp;rw[CH gu,(jm.1 hr).2]at ov;rcases jx.1 ov with rfl|ov
   ·exact h1
   ·exact zWx h1 (hpw r r' hr ov)
  ·rw[IB (by omega)]at ov;cases ov
def dq.ri (b:dq) (s:Int) (l:List xY):dq:=if s=1 then{b with fv:=l}else{b with fc:=l}
def yEt {b:dq} {s:Int} (hs:s=1\/s=2):∃rest,b.qs.Perm ((b.dz s).map (·.queue)++rest)/\∀l,(b.ri s l).qs.Perm (l.map (·.queue)++rest):=by
 rcases hs with rfl|rfl
 ·refine⟨b.fc.map (·.queue)++b.spare,?_,λl=> ?_⟩
  ·rw[dq.qs,jd];exact .refl _
  ·show(l.map (·.queue)++b.fc.map (·.queue)++b.spare).Perm _
   rw[jd]
 ·refine⟨b.fv.map (·.queue)++b.spare,?_,λl=> ?_⟩
  ·rw[dq.qs];show(b.fv.map (·.queue)++b.fc.map (·.queue)++b.spare).Perm (b.fc.map (·.queue)++(b.fv.map (·.queue)++b.spare))
   rw[<- jd];exact Bw.append_right _
  ·show(b.fv.map (·.queue)++l.map (·.queue)++b.spare).Perm (l.map (·.queue)++(b.fv.map (·.queue)++b.spare))
   rw[<- jd];exact Bw.append_right _
structure AU (b:dq) (Q:Q_ Nat) (s p:Int) (b':dq) (n:Int) (Q':Q_ Nat) (R1 R2:List xY):Prop where
 core:b'.Core Q' n
 dz:b'.dz s=R1++⟨p,n⟩::R2
 kx:Spl s p R1 R2
 flat:b'.flat Q'=b.flat Q
 at_:b'.at_=b.at_
 free:b'.a.free=b.a.free
 fm:∀L,b.BS L->b'.BS L
 dr:∀x,b'.my x=b.my x/\b'.jc x=b.jc x
def yVh {α:Type} {l:List α} {x d:α} {n:Nat}:(l++[x]).getD n d=if n=l.length then x else l.getD n d:=by
 rw[mu,mu,List.getElem?_append];split
 ·rw[ez (by omega)]
 ·rename_i h;by_cases e:n=l.length
  ·rw[fh e,e,JW];rfl
  ·rw[ez e,ui (show([x]:List α).length<=n-l.length by simp;omega),ui (by omega)]
def dq.Core.add {b:dq} {Q:Q_ Nat} (c:b.Core Q (-1)) {s p n:Int} (hs:s=1\/s=2) {R1 R2:List xY} (hr:b.dz s=R1++R2) (kx:Spl s p R1 R2) {b':dq} {Q':Q_ Nat}
 (X3:b'.dz s=R1++⟨p,n⟩::R2) (FQ:∀s',s'≠s->s'=1\/s'=2->b'.dz s'=b.dz s') (ta:b'.at_=b.at_) (hw:b'.a.Wf Q') (yt:b'.a.du=b.a.du)
 (hQ:∀k,Q'.getD k []=Q.getD k []) (hn:Q.getD n.toNat []=[]) (aaD:∀q∈b'.qs,0<=q/\q<Q'.length) (qz:b'.qs.Nodup) (IJ:b'.qs.length=Q'.length) (tr:∀q∈b'.spare,Q.getD q.toNat []=[]) (Sa:Q'.length<=250):
 b'.Core Q' n/\b'.flat Q'=b.flat Q:=by
 have Mz:∀r,xL Q' r=xL Q r:=λr=>hQ _
 have hsa:∀k,b'.a.fg k=b.a.fg k:=λk=>by rw[dv.fg,dv.fg,yt]
 have X':xL Q ⟨p,n⟩=[]:=hn;have I5:∀s' r,b'.ie Q' s' r=b.ie Q s' r:=by
  intro s' r;rw[dq.ie,dq.ie,Mz];exact uc λk _=>by rw[uF,uF,hsa]
 have X5:∀s' (r:xY),(xL Q' r).map (uR b'.a s' r.dm)=(xL Q r).map (uR b.a s' r.dm):=by
  intro s' r;rw[Mz];exact uc λk _=>by rw[uR,uR,hsa]
 have o5:∀s',s'=1\/s'=2->b'.iu Q' s'=b.iu Q s':=by
  intro s' iP;rw[dq.iu,dq.iu];by_cases e:s'=s
  ·subst e;rw[X3,hr,yy,yy,vi,xM (λr _=>I5 s' r),xM (l:=R2) (λr _=>I5 s' r),I5,dq.ie,X',Bs,we]
  ·rw[FQ s' e iP];exact xM λr _=>I5 s' r
 have zk:∀s',s'=1\/s'=2->b'.ml Q' s'=b.ml Q s':=by
  intro s' iP;rw[dq.ml,dq.ml];by_cases e:s'=s
  ·subst e;rw[X3,hr,yy,yy,vi,xM (λr _=>X5 s' r),xM (l:=R2) (λr _=>X5 s' r),X5,X',Bs,we]
  ·rw[FQ s' e iP];exact xM λr _=>X5 s' r
 have rz:b'.flat Q'=b.flat Q:=by rw[dq.flat,dq.flat,o5 1 (.inl rfl),o5 2 (.inr rfl)]
 refine⟨⟨hw,λs' iP=> ?_,aaD,qz,IJ,λs' iP r ov jy=> ?_,λq hq=>by rw[hQ];exact tr q hq,by rw[ta,zk 1 (.inl rfl),zk 2 (.inr rfl)];exact c.at_,by rw[rz];exact c.ids,Sa⟩,rz⟩
 ·by_cases e:s'=s
  ·subst e;have h0:=c.xk s' iP;rw[hr,ae]at h0;rw[X3,ae,yx];refine⟨h0.1,⟨kx.b,h0.2.1⟩,λx hx y hy=> ?_⟩;rcases jx.1 hy with rfl|hy
   ·exact kx.a x hx
   ·exact h0.2.2 x hx y hy
  ·rw[FQ s' e iP];exact c.xk s' iP
 ·rw[Mz];have hold:∀r∈b.dz s',xL Q r≠[]:=λr hr=>c.ne s' iP r hr λe=>by
   have:=c.uj _ (g8 iP hr);omega
  by_cases e:s'=s
  ·subst e;rw[X3]at ov;rcases oK.1 ov with h|h
   ·exact hold r (by rw[hr];exact yo _ h)
   ·rcases jx.1 h with rfl|h
    ·exact absurd rfl jy
    ·exact hold r (by rw[hr];exact zu _ h)
  ·rw[FQ s' e iP]at ov;exact hold r ov
def zRu (b:dq) {s:Int} (hs:s=1\/s=2) (l:List xY):(b.ri s l).dz s=l/\∀s',s'≠s->s'=1\/s'=2->(b.ri s l).dz s'=b.dz s':=by
 rcases hs with rfl|rfl
 ·exact⟨rfl,λs' h h2=>by rcases h2 with rfl|rfl;exact absurd rfl h;rfl⟩
 ·exact⟨rfl,λs' h h2=>by rcases h2 with rfl|rfl;rfl;exact absurd rfl h⟩
def yKt (b:dq) {s p:Int} (hs:s=1\/s=2):b.gf s p=if jR s (b.dz s) p=au then(b,((b.dz s).getD (yB s (b.dz s) p) ⟨0,0⟩).queue)else(({b with a:=b.iT.2.2,spare:=b.iT.2.1}:dq).ri s (b.ins s p),b.iT.1):=by
 rcases hs with rfl|rfl<;>rfl
def dq.Core.queue {b:dq} {Q:Q_ Nat} (c:b.Core Q (-1)) (hl:(b.flat Q).length<250) {s:Int} (hs:s=1\/s=2) (p:Int):∃Q' R1 R2,AU b Q s p (b.gf s p).1 (b.gf s p).2 Q' R1 R2:=by
 have tr:=zGg (p:=p) (c.xk s hs);rw[yKt b hs];by_cases hb:jR s (b.dz s) p=au
 ·rw[fh hb]at tr ⊢;obtain⟨h1,r,hr,hp,h2⟩:=tr;have gu:=(jm.1 hr).1;have er:(⟨p,r.queue⟩:xY)=r:=by rw[<- hp]
  have o6:b.dz s=(b.dz s).take (yB s (b.dz s) p)++r::(b.dz s).drop (yB s (b.dz s) p+1):=by
   conv=>lhs;rw[<- Bb (yB s (b.dz s) p) (b.dz s)]
   rw[CH gu,(jm.1 hr).2]
  refine⟨Q,_,_,⟨⟨c.wf,c.xk,c.uj,c.nd,c.ql,λs' iP r' ov _=>c.ne s' iP r' ov λe=> ?_,c.sp,c.at_,c.ids,c.qb⟩,?_,⟨h1,h2⟩,rfl,rfl,rfl,λ_ h=>h,λ_=>⟨rfl,rfl⟩⟩⟩
  ·have:=c.uj _ (g8 iP ov);omega
  ·dsimp only;rw[zX hr,er];exact o6
 ·rw[ez hb]at tr ⊢;obtain⟨h1,h2⟩:=tr;have hr:b.dz s=(b.dz s).take (yB s (b.dz s) p)++(b.dz s).drop (yB s (b.dz s) p):=(Bb _ _).symm;obtain⟨g1,g2⟩:=zRu ({b with a:=b.iT.2.2,spare:=b.iT.2.1}:dq) hs (b.ins s p);have fm:∀x,((({b with a:=b.iT.2.2,spare:=b.iT.2.1}:dq).ri s (b.ins s p)).my x=b.my x/\(({b with a:=b.iT.2.2,spare:=b.iT.2.1}:dq).ri s (b.ins s p)).jc x=b.jc x):=by
   intro x;rcases hs with rfl|rfl<;>exact⟨rfl,rfl⟩
  have ta:(({b with a:=b.iT.2.2,spare:=b.iT.2.1}:dq).ri s (b.ins s p)).at_=b.at_:=by rcases hs with rfl|rfl<;>rfl
  have ha:(({b with a:=b.iT.2.2,spare:=b.iT.2.1}:dq).ri s (b.ins s p)).a=b.iT.2.2:=by rcases hs with rfl|rfl<;>rfl
  have Tk:(({b with a:=b.iT.2.2,spare:=b.iT.2.1}:dq).ri s (b.ins s p)).spare=b.iT.2.1:=by rcases hs with rfl|rfl<;>rfl
  obtain⟨rest,q1,q2⟩:=yEt (b:=({b with a:=b.iT.2.2,spare:=b.iT.2.1}:dq)) hs;have q2:=q2 (b.ins s p);have FR:(({b with a:=b.iT.2.2,spare:=b.iT.2.1}:dq).ri s (b.ins s p)).qs.Perm (b.iT.1::({b with a:=b.iT.2.2,spare:=b.iT.2.1}:dq).qs):=by
   refine q2.trans (.trans ?_ (q1.symm.cons _));rw[<- uh];refine cp _ ?_;show((b.ins s p).map (·.queue)).Perm (b.iT.1::(b.dz s).map (·.queue))
   conv=>rhs;rw[hr]
   rw[dq.ins,jk,jk,jf];exact mo
  generalize hB:(({b with a:=b.iT.2.2,spare:=b.iT.2.1}:dq).ri s (b.ins s p))=B at*;have fin:∀Q',B.a.Wf Q'->B.a.du=b.a.du->B.a.free=b.a.free->(∀k,Q'.getD k []=Q.getD k [])->Q.getD b.iT.1.toNat []=[]->(∀q∈B.qs,0<=q/\q<Q'.length)->B.qs.Nodup->B.qs.length=Q'.length->(∀q∈B.spare,Q.getD q.toNat []=[])->Q'.length<=250->∃Q' R1 R2,AU b Q s p B b.iT.1 Q' R1 R2:=by
   intro Q' w1 w2 w3 w4 w5 w6 w7 w8 w9 w10;obtain⟨u1,u2⟩:=c.add hs hr ⟨h1,h2⟩ (b':=B) (Q':=Q') (n:=b.iT.1) (by rw[g1];rfl) g2 ta w1 w2 w4 w5 w6 w7 w8 w9 w10;refine⟨Q',_,_,⟨u1,g1.trans rfl,⟨h1,h2⟩,u2,ta,w3,λL h=>⟨λo ho=> ?_,λs' iP hh=> ?_⟩,fm⟩⟩
   ·rw[(fm o.side).1,(fm o.side).2];exact h.fl o ho
   ·rw[(fm s').1]at hh;rw[(fm s').2];exact h.th s' iP hh
  by_cases he:b.spare.length=0
  ·have FU:b.iT=((b.a.dy.length:Int),b.spare,b.a.ru):=by rw[dq.iT,fh he]
   have IJ:=c.wf.ql;have aaB:b.spare=[]:=xq he;have CW:B.qs.Perm ((Q.length:Int)::b.qs):=by
    rw[FU]at FR;rw[<- IJ];exact FR
   refine fin (Q++[[]]) (by rw[ha,FU];exact c.wf.open) (by rw[ha,FU];rfl) (by rw[ha,FU];rfl) (λk=> ?_) ?_ (λq hq=> ?_) ?_ ?_ (λq hq=> ?_) ?_
   ·rw[yVh];split
    ·rename_i e;rw[e,mu,ui (ju _)];rfl
    ·rfl
   ·rw[FU,mu,ui (by dsimp only;omega)];rfl
   ·rw[iv];rcases jx.1 (CW.mem_iff.1 hq)with rfl|hq
    ·simp only[Ba];omega
    ·have:=c.uj q hq;simp only[Ba];omega
   ·refine CW.nodup_iff.2 (ym.2 ⟨λhm=> ?_,c.nd⟩);have:=c.uj _ hm;omega
   ·rw[CW.length_eq,iF,iv,c.ql];rfl
   ·rw[Tk,FU]at hq;rw[aaB]at hq;cases hq
   ·have h1:=z8p (l:=b.dz 1) (f:=b.ie Q 1) λr hr e=>c.ne 1 (.inl rfl) r hr (λe2=>by have:=c.uj _ (g8 (.inl rfl) hr);omega) (List.map_eq_nil_iff.1 e)
    have h2:=z8p (l:=b.dz 2) (f:=b.ie Q 2) λr hr e=>c.ne 2 (.inr rfl) r hr (λe2=>by have:=c.uj _ (g8 (.inr rfl) hr);omega) (List.map_eq_nil_iff.1 e)
    have h3:=c.ql;rw[dq.flat,iv,dq.iu,dq.iu]at hl;rw[dq.qs,iv,iv,ia,ia,he]at h3;rw[eQ]at h1 hl;rw[lC]at h2 hl;rw[iv,Ba];omega
  ·have FU:b.iT=(b.spare.getD (b.spare.length-1) 0,b.spare.take (b.spare.length-1),b.a):=by rw[dq.iT,ez he]
   obtain⟨sp,q,I4⟩:∃sp q,b.spare=sp++[q]:=⟨_,_,(List.dropLast_concat_getLast (l:=b.spare) (by intro e;rw[e]at he;exact he rfl)).symm⟩
   have e1:b.iT=(q,sp,b.a):=by
    rw[FU,I4];simp
   have CW:B.qs.Perm b.qs:=by
    refine FR.trans ?_;rw[e1];show(q::(b.fv.map (·.queue)++b.fc.map (·.queue)++sp)).Perm (b.fv.map (·.queue)++b.fc.map (·.queue)++b.spare)
    rw[I4,<- jd];exact RI q _|>.symm
   have hq0:q∈b.spare:=by rw[I4];simp
   refine fin Q (by rw[ha,e1];exact c.wf) (by rw[ha,e1]) (by rw[ha,e1]) (λ_=>rfl) (by rw[e1];exact c.sp q hq0) (λq hq=>c.uj q (CW.mem_iff.1 hq)) (CW.nodup_iff.2 c.nd) (by rw[CW.length_eq];exact c.ql) (λq' X4=> ?_) c.qb;rw[Tk,e1]at X4;exact c.sp q' (by rw[I4];exact yo _ X4)
def dq.Core.used {b:dq} {Q:Q_ Nat} (c:b.Core Q (-1)) (hl:(b.flat Q).length<250):b.a.free≠0:=by
 intro hf;have AB:=c.wf.free;rw[hf]at AB;have hz:(b.a.du.map (·.used)).countP (!·)=0:=by omega
 rw[List.countP_eq_zero]at hz;have wu:∀k∈aq 250,k∈((b.dz 1).flatMap (xL Q)++(b.dz 2).flatMap (xL Q)):=by
  intro k hk;have hk:=Cd.1 hk;obtain⟨s,hs⟩:=zZ (l:=b.a.du) (i:=k) (by rw[c.wf.len];exact hk);have hu:s.used=au:=by
   have:=hz s.used (si (lh hs));simpa using this
  obtain⟨n,l,hn,o7⟩:=c.wf.us k s hs hu;have FV:=(jm.1 hn).1;have hm:(n:Int)∈b.qs:=yLq c.nd (λx hx=>by rw[c.ql];exact c.uj x hx) (by rw[c.ql];exact FV);have e:∀r:xY,r.queue=(n:Int)->k∈xL Q r:=by
   intro r hr;rw[xL,hr,ot,zX hn];exact o7
  rw[dq.qs]at hm;rcases oK.1 hm with hm|hm
  ·rcases oK.1 hm with hm|hm
   ·obtain⟨r,hr,er⟩:=np.1 hm;exact yo _ (A8.2 ⟨r,hr,e r er⟩)
   ·obtain⟨r,hr,er⟩:=np.1 hm;exact zu _ (A8.2 ⟨r,hr,e r er⟩)
  ·have:=c.sp _ hm;rw[ot,zX hn]at this;rw[this]at o7;cases o7
 have h1:=zKu List.nodup_range wu;have e:∀s,(b.iu Q s).length=((b.dz s).flatMap (xL Q)).length:=by
  intro s;rw[dq.iu,On,On];congr 1;exact uc λr _=>by rw[dq.ie,ia]
 rw[iv,<- e,<- e,Rv]at h1;rw[dq.flat,iv]at hl;omega
def z1o {s p:Int} {o:zJ} (h:o.side≠s) (gu:o.side=1\/o.side=2) (hs:s=1\/s=2):before s p o=decide (s=2):=by
 rw[before,jv h,Di,Bool.or_false];rcases hs with rfl|rfl
 ·rw[jv (by omega),jv (by omega)]
 ·rw[jo (by omega),jo rfl]
def AU.put {b:dq} {Q:Q_ Nat} {s p:Int} {b':dq} {n:Int} {Q':Q_ Nat} {R1 R2:List xY} (h:AU b Q s p b' n Q' R1 R2) (hs:s=1\/s=2) {id dr:Int} (top:Bool) (Bg:id∉(b.flat Q).map (·.id)) (hf:b.a.free≠0) (hq:1<=dr/\dr<=1000000):
 ∃Q3 A B,({b' with a:=(b'.a.push n id dr top).1,at_:=tT id ⟨s,p,(b'.a.push n id dr top).2.1⟩ b'.at_}:dq).Core Q3 (-1)/\b'.flat Q'=A++B/\
  ({b' with a:=(b'.a.push n id dr top).1,at_:=tT id ⟨s,p,(b'.a.push n id dr top).2.1⟩ b'.at_}:dq).flat Q3=A++⟨id,s,p,dr,top⟩::B/\(∀o∈A,before s p o=au)/\∀o∈B,before s p o=av:=by
 have c:=h.core;have IH:(⟨p,n⟩:xY)∈b'.dz s:=by rw[h.dz];simp
 have hnr:0<=n/\n<Q'.length:=c.uj n (g8 hs IH);obtain⟨m,rfl⟩:∃m:Nat,n=m:=⟨n.toNat,oM⟩
 have hl:Q'[m]? =ba (xL Q' ⟨p,m⟩):=z5e (r:=⟨p,m⟩) hnr;obtain⟨k,k1,k2,k3,k4,kw,Te,aa1⟩:=c.wf.put (id:=id) hl (by rw[h.free];exact hf) top hq;have Uc:b'.a.push m id dr top=(b'.a.put m id dr top,(k:Int),0):=by
  have:=c.wf.ql;rw[dv.push,ez (by omega),ez (by omega),ez (by rw[h.free];exact hf),k1]
 rw[Uc];dsimp only;have hmQ:=(jm.1 hl).1;have FT:∀s' (r:xY),(s'=1\/s'=2)->r∈b'.dz s'->(r.queue=m->s'=s/\r=⟨p,m⟩):=by
  intro s' r iP hr e;obtain⟨rest,q1,_⟩:=yEt (b:=b') hs;have qz:=q1.nodup_iff.1 c.nd;rw[h.dz,jk,jf]at qz;by_cases es:s'=s
  ·subst es;refine⟨rfl,?_⟩;rw[h.dz]at hr;have Tn:=(Au.1 qz).1;rcases oK.1 hr with hr|hr
   ·exact absurd e ((Au.1 Tn).2.2 r.queue (si (f:=(·.queue)) hr) m iX)
   ·rcases jx.1 hr with rfl|hr
    ·rfl
    ·have:=(ym.1 (Au.1 Tn).2.1).1;exact absurd (e▸si (f:=(·.queue)) hr) this
  ·exfalso;have AB:=c.nd;rw[dq.qs]at AB;have Tp:=(Au.1 (Au.1 AB).1).2.2;have ha:(m:Int)∈(b'.dz s).map (·.queue):=np.2 ⟨_,IH,rfl⟩
   have hb:(m:Int)∈(b'.dz s').map (·.queue):=np.2 ⟨r,hr,e⟩
   rcases hs with rfl|rfl<;>rcases iP with rfl|rfl
   ·exact es rfl
   ·exact Tp _ ha _ hb rfl
   ·exact Tp _ hb _ ha rfl
   ·exact es rfl
 have zi:xL (Q'.set m (xL Q' ⟨p,m⟩++[k])) ⟨p,m⟩=xL Q' ⟨p,m⟩++[k]:=by
  show(Q'.set m _).getD (Int.toNat (m:Int)) []=_;rw[ot];exact zX (cQ hmQ)
 have zh:∀q:Int,0<=q->q≠m->(Q'.set m (xL Q' ⟨p,m⟩++[k])).getD q.toNat []=Q'.getD q.toNat []:=by
  intro q h0 jy;rw[mu,u7 (by omega),mu]
 generalize hQ3:Q'.set m (xL Q' ⟨p,m⟩++[k])=Q3 at*;have Km:Q3.length=Q'.length:=by rw[<- hQ3,qm]
 have aa8:=nC;have AM:∀s' (r:xY),(s'=1\/s'=2)->r∈b'.dz s'->∀j∈xL Q' r,j≠k/\(uF (b'.a.put m id dr top) s' r.dm j=uF b'.a s' r.dm j/\uR (b'.a.put m id dr top) s' r.dm j=uR b'.a s' r.dm j):=by
  intro s' r iP hr j hj;have So:j≠k:=by rintro rfl;exact k4 _ _ (c.get iP hr) hj
  have:=Te j;rw[ez So]at this;refine⟨So,by rw[uF,uF,this],?_⟩;have:=congrArg Eu.id this;rw[uR,uR];exact congrArg (λi=>(i,(⟨s',r.dm,j⟩:Place))) this
 have HR:∀s' (r:xY),(s'=1\/s'=2)->r∈b'.dz s'->r.queue≠m->xL Q3 r=xL Q' r:=by
  intro s' r iP hr jy;exact zh _ (c.uj _ (g8 iP hr)).1 jy
 generalize hB:({b' with a:=b'.a.put m id dr top,at_:=tT id ⟨s,p,k⟩ b'.at_}:dq)=B3;have SE:∀s',B3.dz s'=b'.dz s':=by intro s';rw[<- hB];rfl
 have SF:B3.a=b'.a.put m id dr top:=by rw[<- hB]
 have aaU:B3.at_=tT id ⟨s,p,k⟩ b'.at_:=by rw[<- hB]
 have MN:B3.qs=b'.qs:=by rw[<- hB];rfl
 have aaT:B3.spare=b'.spare:=by rw[<- hB]
 have FQ:∀s' (r:xY),(s'=1\/s'=2)->r∈b'.dz s'->r.queue≠m->B3.ie Q3 s' r=b'.ie Q' s' r/\(xL Q3 r).map (uR B3.a s' r.dm)=(xL Q' r).map (uR b'.a s' r.dm):=by
  intro s' r iP hr jy;rw[dq.ie,dq.ie,HR s' r iP hr jy,SF];exact⟨uc λj hj=>(AM s' r iP hr j hj).2.1,uc λj hj=>(AM s' r iP hr j hj).2.2⟩
 have I7:uF B3.a s p k=⟨id,s,p,dr,top⟩/\uR B3.a s p k=(id,⟨s,p,k⟩):=by
  have:=Te k;rw[fh rfl]at this;rw[uF,SF,this];refine⟨rfl,?_⟩;have:=congrArg Eu.id this;rw[uR];exact congrArg (λi=>(i,(⟨s,p,k⟩:Place))) this
 have Tl:B3.ie Q3 s ⟨p,m⟩=b'.ie Q' s ⟨p,m⟩++[⟨id,s,p,dr,top⟩]/\(xL Q3 ⟨p,m⟩).map (uR B3.a s p)=(xL Q' ⟨p,m⟩).map (uR b'.a s p)++[(id,⟨s,p,k⟩)]:=by
  rw[dq.ie,dq.ie,zi,jk,jk,ap,ap];refine⟨?_,?_⟩
  ·rw[I7.1,uc (g:=uF b'.a s p) λj hj=>by rw[SF];exact(AM s ⟨p,m⟩ hs IH j hj).2.1]
  ·rw[I7.2,uc (g:=uR b'.a s p) λj hj=>by rw[SF];exact(AM s ⟨p,m⟩ hs IH j hj).2.2]
 have Yf:∀r∈R1,r∈b'.dz s/\r.queue≠m:=by
  intro r hr;have hm:r∈b'.dz s:=by rw[h.dz];exact yo _ hr
  refine⟨hm,λe=> ?_⟩;have e2:=(FT s r hs hm e).2;have:=h.kx.a r hr;rw[e2,NO]at this;cases this
 have OV:∀r∈R2,r∈b'.dz s/\r.queue≠m:=by
  intro r hr;have hm:r∈b'.dz s:=by rw[h.dz];exact zu _ (ji _ hr)
  refine⟨hm,λe=> ?_⟩;have e2:=(FT s r hs hm e).2;have:=h.kx.b r hr;rw[e2,NO]at this;cases this
 have zF:B3.iu Q3 s=(R1.flatMap (b'.ie Q' s)++b'.ie Q' s ⟨p,m⟩)++⟨id,s,p,dr,top⟩::R2.flatMap (b'.ie Q' s):=by
  rw[dq.iu,SE,h.dz,yy,vi,Tl.1,xM (l:=R1) (λr hr=>(FQ s r hs (Yf r hr).1 (Yf r hr).2).1),xM (l:=R2) (λr hr=>(FQ s r hs (OV r hr).1 (OV r hr).2).1)];simp
 have KD:b'.iu Q' s=(R1.flatMap (b'.ie Q' s)++b'.ie Q' s ⟨p,m⟩)++R2.flatMap (b'.ie Q' s):=by
  rw[dq.iu,h.dz,yy,vi,jd]
 have S5:(B3.ml Q3 s).Perm ((id,⟨s,p,k⟩)::b'.ml Q' s):=by
  rw[dq.ml,SE,h.dz,yy,vi,Tl.2,xM (l:=R1) (λr hr=>(FQ s r hs (Yf r hr).1 (Yf r hr).2).2),xM (l:=R2) (λr hr=>(FQ s r hs (OV r hr).1 (OV r hr).2).2),dq.ml,h.dz,yy,vi];rw[jd,RC,<- jd];refine mo.trans ?_;rw[jd]
 have other:∀s',s'≠s->s'=1\/s'=2->B3.iu Q3 s'=b'.iu Q' s'/\B3.ml Q3 s'=b'.ml Q' s':=by
  intro s' jy iP;have I8:∀r∈b'.dz s',r.queue≠m:=λr hr e=>jy (FT s' r iP hr e).1
  rw[dq.iu,dq.iu,dq.ml,dq.ml,SE];exact⟨xM λr hr=>(FQ s' r iP hr (I8 r hr)).1,xM λr hr=>(FQ s' r iP hr (I8 r hr)).2⟩
 have bA:∀o∈R1.flatMap (b'.ie Q' s)++b'.ie Q' s ⟨p,m⟩,before s p o=au:=by
  intro o ho;rcases oK.1 ho with ho|ho
  ·obtain⟨r,hr,ho⟩:=A8.1 ho;obtain⟨e1,e2⟩:=kA ho;rw[before,e1,e2,z3f (h.kx.a r hr)];simp
  ·obtain⟨e1,e2⟩:=kA ho;rw[before,e1,e2,NO];simp
 have bB:∀o∈R2.flatMap (b'.ie Q' s),before s p o=av:=by
  intro o ho;obtain⟨r,hr,ho⟩:=A8.1 ho;obtain⟨e1,e2⟩:=kA ho;rw[before,e1,e2,h.kx.b r hr];simp
 have bO:∀s',s'≠s->s'=1\/s'=2->∀o∈b'.iu Q' s',before s p o=decide (s=2):=by
  intro s' jy iP o ho;have:=(pA ho).1;exact z1o oM oM hs
 have Ur:∃A B,b'.flat Q'=A++B/\B3.flat Q3=A++⟨id,s,p,dr,top⟩::B/\(∀o∈A,before s p o=au)/\∀o∈B,before s p o=av:=by
  rcases hs with rfl|rfl
  ·refine⟨_,R2.flatMap (b'.ie Q' 1)++b'.iu Q' 2,?_,?_,bA,λo ho=> ?_⟩
   ·rw[dq.flat,KD];simp only[jd]
   ·rw[dq.flat,zF,(other 2 (by decide) (.inr rfl)).1];simp only[jd,uh]
   ·rcases oK.1 ho with ho|ho
    ·exact bB o ho
    ·exact bO 2 Z8 (.inr rfl) o ho
  ·refine⟨b'.iu Q' 1++(R1.flatMap (b'.ie Q' 2)++b'.ie Q' 2 ⟨p,m⟩),R2.flatMap (b'.ie Q' 2),?_,?_,λo ho=> ?_,bB⟩
   ·rw[dq.flat,KD];simp only[jd]
   ·rw[dq.flat,zF,(other 1 (by decide) (.inl rfl)).1];simp only[jd]
   ·rcases oK.1 ho with ho|ho
    ·exact bO 1 Z8 (.inl rfl) o ho
    ·exact bA o ho
 obtain⟨A,B,f1,f2,f3,f4⟩:=Ur;refine⟨Q3,A,B,⟨by rw[SF];exact kw,λs' iP=>by rw[SE];exact c.xk s' iP,by rw[MN,Km];exact c.uj,by rw[MN];exact c.nd,by rw[MN,Km];exact c.ql,λs' iP r hr _=> ?_,λq hq=> ?_,?_,?_,by rw[Km];exact c.qb⟩,f1,f2,f3,f4⟩
 ·rw[SE]at hr;by_cases e:r.queue=m
  ·obtain⟨rfl,rfl⟩:=FT s' r iP hr e;rw[zi];simp
  ·rw[HR s' r iP hr e];exact c.ne s' iP r hr e
 ·rw[aaT]at hq;have OL:q∈b'.qs:=zu _ hq;rw[zh q (c.uj q OL).1 λe=> ?_]
  ·exact c.sp q hq
  ·have AB:=c.nd;rw[dq.qs]at AB;refine(Au.1 AB).2.2 m ?_ q hq e.symm;rcases hs with rfl|rfl
   ·exact yo _ (np.2 ⟨_,IH,rfl⟩)
   ·exact zu _ (np.2 ⟨_,IH,rfl⟩)
 ·have IK:id∉b'.at_.map (·.1):=by
   rw[c.Ad.mem_iff,h.flat];exact Bg
  rw[aaU,z3l IK];refine(RI _ _).trans ?_;rcases hs with rfl|rfl
  ·rw[(other 2 (by decide) (.inr rfl)).2];exact(c.at_.cons _).trans (S5.symm.append_right _)
  ·rw[(other 1 (by decide) (.inl rfl)).2];refine(c.at_.cons _).trans ?_;refine(mo.symm).trans (S5.symm.append_left _)
 ·rw[f2,jk,jf];have h1:=c.ids;rw[f1,jk]at h1;have h2:id∉(A++B).map (·.id):=by rw[<- f1,h.flat];exact Bg
  refine mo.nodup_iff.2 (ym.2 ⟨by rw[jk]at h2;exact h2,h1⟩)
def vQ (L:List zJ) (id:Int):Bool:=L.any λo=>decide (o.id=id)
def CB (L:List zJ) (s id p q:Int):List zJ×Int:=if q<1\/1000000<q then(L,24)else if vQ L id=au then(L,25)else if 250<=L.length then(L,13)else(Ie L s id p q,0)
def kr {L:List zJ} {id:Int}:vQ L id=au↔id∈L.map (·.id):=by
 rw[vQ,Oh,np];constructor
 ·rintro⟨o,ho,e⟩;exact⟨o,ho,rf e⟩
 ·rintro⟨o,ho,e⟩;exact⟨o,ho,jo e⟩
def sR {b:dq} {Q:Q_ Nat} {o:zJ} (h:o∈b.flat Q):(o.side=1\/o.side=2)/\∃r∈b.dz o.side,o∈b.ie Q o.side r/\o.dm=r.dm:=by
 rcases oK.1 h with h|h
 all_goals
  obtain⟨e,r,hr,ho,hp⟩:=pA h;rw[e];exact⟨by simp,r,hr,ho,hp⟩
def B9 {b:dq} {Q:Q_ Nat} {s:Int} (hs:s=1\/s=2) {o:zJ} (h:o∈b.iu Q s):o∈b.flat Q:=by
 rcases hs with rfl|rfl
 ·exact yo _ h
 ·exact zu _ h
def dq.Core.leads {b:dq} {Q:Q_ Nat} (c:b.Core Q (-1)) {s:Int} (hs:s=1\/s=2) (p:Int):b.leads s p=fS (b.flat Q) s p:=by
 have Tj:=c.xk s hs;have jy:=c.ne s hs;rw[dq.leads];cases hr:b.dz s with
 |nil=>
  symm;dsimp only;rw[fS,Ef];intro o ho;obtain⟨_,r,xo,_⟩:=sR ho;by_cases e:o.side=s
  ·rw[e,hr]at xo;cases xo
  ·rw[jv e];rfl
 |cons r0 l=>
  dsimp only;rw[hr,yx]at Tj;have hm:r0∈b.dz s:=by rw[hr];exact iX
  cases hb:jl s p r0.dm with
  |true=>
   symm;rw[fS,Ef];intro o ho;obtain⟨_,r,xo,_,hp⟩:=sR ho;by_cases e:o.side=s
   ·rw[e,hr]at xo;rw[hp];rcases jx.1 xo with rfl|xo
    ·rw[hb];simp
    ·rw[zWx hb (Tj.1 r xo)];simp
   ·rw[jv e];rfl
  |false=>
   symm;rw[fS,List.all_eq_false];have h0:=jy r0 hm λe=>by have:=c.uj _ (g8 hs hm);omega
   cases hk:xL Q r0 with
   |nil=>exact absurd hk h0
   |cons k ks=>
    refine⟨uF b.a s r0.dm k,B9 hs (A8.2 ⟨r0,hm,by rw[dq.ie,hk];exact iX⟩),?_⟩;show ¬((!decide (s=s))||jl s p r0.dm)=au;rw[hb];simp
def yFl {L:List zJ} {s:Int} {o:zJ} (h:o∈DD L s):∃o'∈L,o.id=o'.id/\o.side=o'.side/\o.dm=o'.dm/\o.dr=o'.dr/\o.top=(if o.side=s then av else o'.top):=by
 obtain⟨o',ho,e⟩:=np.1 h;refine⟨o',ho,?_⟩;by_cases c:o'.side=s
 ·rw[fh c]at e;subst e;exact(nf ((fh c).symm))
 ·rw[ez c]at e;subst e;exact(nf ((ez c).symm))
def yXf {L:List zJ} {s:Int} {o:zJ} (h:o∈L) (hs:o.side≠s):o∈DD L s:=np.2 ⟨o,h,ez hs⟩
def yDe (L:List zJ) (s:Int):(DD L s).map (·.id)=L.map (·.id):=by
 rw[DD,wb];refine uc λo _=> ?_
 simp only[co];split<;>rfl
def z7z (b:dq) (id:Int) {s:Int} (hs:s=1\/s=2):(b.jj id s).a=b.iW s/\(b.jj id s).fv=b.fv/\(b.jj id s).fc=b.fc/\(b.jj id s).at_=b.at_/\(b.jj id s).spare=b.spare/\∀s',s'=1\/s'=2->(b.jj id s).my s'=(if s'=s then au else b.my s')/\(b.jj id s).jc s'=(if s'=s then id else b.jc s'):=by
 rcases hs with rfl|rfl
 ·exact(sy (λs' h=>by rcases h with rfl|rfl<;>exact⟨rfl,rfl⟩))
 ·exact(sy (λs' h=>by rcases h with rfl|rfl<;>exact⟨rfl,rfl⟩))
def dq.Core.mc {b b':dq} {Q:Q_ Nat} {h:Int} (c:b.Core Q h) (e1:b'.a=b.a) (e2:b'.fv=b.fv) (e3:b'.fc=b.fc) (e4:b'.at_=b.at_) (e5:b'.spare=b.spare):b'.Core Q h/\b'.flat Q=b.flat Q:=by
 have er:∀s,b'.dz s=b.dz s:=λs=>by rw[dq.dz,dq.dz,e2,e3]
 have eo:∀s r,b'.ie Q s r=b.ie Q s r:=λs r=>by rw[dq.ie,dq.ie,e1]
 have es:∀s,b'.iu Q s=b.iu Q s:=λs=>by rw[dq.iu,dq.iu,er];exact xM λr _=>eo s r
 have ep:∀s,b'.ml Q s=b.ml Q s:=λs=>by rw[dq.ml,dq.ml,er,e1]
 have ef:b'.flat Q=b.flat Q:=by rw[dq.flat,dq.flat,es,es]
 have eq:b'.qs=b.qs:=by rw[dq.qs,dq.qs,e2,e3,e5]
 exact⟨⟨by rw[e1];exact c.wf,λs hs=>by rw[er];exact c.xk s hs,by rw[eq];exact c.uj,by rw[eq];exact c.nd,by rw[eq];exact c.ql,λs hs=>by rw[er];exact c.ne s hs,by rw[e5];exact c.sp,by rw[e4,ep,ep];exact c.at_,by rw[ef];exact c.ids,c.qb⟩,ef⟩
def dq.ga.pw {b:dq} {L:List zJ} (h:b.ga L) {s:Int} (hs:s=1\/s=2) {id p q:Int} (Bg:id∉L.map (·.id)) (hl:L.length<250) (hq:1<=q/\q<=1000000):(b.pw s id p q).ga (Ie L s id p q):=by
 obtain⟨Q,c,ht,rfl⟩:=h;have Sl:=c.leads hs p;have h1:(b.qv id s p).Core Q (-1)/\(b.qv id s p).flat Q=(if fS (b.flat Q) s p=au then DD (b.flat Q) s else b.flat Q):=by
  rw[dq.qv,Sl];split
  ·obtain⟨e1,e2,e3,e4,e5,_⟩:=z7z b id hs;obtain⟨u1,u2⟩:=c.iW s;obtain⟨v1,v2⟩:=dq.Core.mc (b':=b.jj id s) (c.flag u1 u2) e1 e2 e3 e4 e5;exact⟨v1,v2.trans (c.C9 ht hs)⟩
  ·exact⟨c,rfl⟩
 obtain⟨c1,f1⟩:=h1;have K1:((b.qv id s p).flat Q).length<250:=by
  rw[f1];split
  ·rw[DD,ia];exact hl
  ·exact hl
 have aaN:id∉((b.qv id s p).flat Q).map (·.id):=by
  rw[f1];split
  ·rw[yDe];exact Bg
  ·exact Bg
 obtain⟨Q',R1,R2,FT⟩:=c1.queue K1 hs p;obtain⟨Q3,A,B,k1,k2,k3,k4,k5⟩:=FT.put hs (b.leads s p) aaN (c1.used K1) hq;have Mm:A++B=(if fS (b.flat Q) s p=au then DD (b.flat Q) s else b.flat Q):=by rw[<- k2,FT.flat,f1]
 have BP:Ie (b.flat Q) s id p q=A++⟨id,s,p,q,b.leads s p⟩::B:=by
  rw[Ie];obtain⟨t1,t2⟩:=yQe k4 k5;rw[<- Mm,t1,t2,Sl]
 refine⟨Q3,k1,?_,?_⟩
 ·rw[BP,Sl];show dq.BS {((b.qv id s p).gf s p).1 with a:=_,at_:=_} _;have ss:∀x,({((b.qv id s p).gf s p).1 with a:=(((b.qv id s p).gf s p).1.a.push ((b.qv id s p).gf s p).2 id q (b.leads s p)).1,at_:=tT id ⟨s,p,(((b.qv id s p).gf s p).1.a.push ((b.qv id s p).gf s p).2 id q (b.leads s p)).2.1⟩ ((b.qv id s p).gf s p).1.at_}:dq).my x=(b.qv id s p).my x/\({((b.qv id s p).gf s p).1 with a:=(((b.qv id s p).gf s p).1.a.push ((b.qv id s p).gf s p).2 id q (b.leads s p)).1,at_:=tT id ⟨s,p,(((b.qv id s p).gf s p).1.a.push ((b.qv id s p).gf s p).2 id q (b.leads s p)).2.1⟩ ((b.qv id s p).gf s p).1.at_}:dq).jc x=(b.qv id s p).jc x:=FT.dr;generalize ({((b.qv id s p).gf s p).1 with a:=(((b.qv id s p).gf s p).1.a.push ((b.qv id s p).gf s p).2 id q (b.leads s p)).1,at_:=tT id ⟨s,p,(((b.qv id s p).gf s p).1.a.push ((b.qv id s p).gf s p).2 id q (b.leads s p)).2.1⟩ ((b.qv id s p).gf s p).1.at_}:dq)=B3 at*;have RS:∀o,o∈A++⟨id,s,p,q,fS (b.flat Q) s p⟩::B↔o=⟨id,s,p,q,fS (b.flat Q) s p⟩\/o∈A++B:=by
   intro o;rw[oK,jx,oK];constructor
   ·rintro(h|h|h)
    ·exact .inr (.inl h)
    ·exact .inl h
    ·exact .inr (.inr h)
   ·rintro(h|h|h)
    ·exact .inr (.inl h)
    ·exact .inl h
    ·exact .inr (.inr h)
  have Fa:∀o∈b.flat Q,o.side=1\/o.side=2:=λo ho=>(sR ho).1
  by_cases Ae:fS (b.flat Q) s p=au
  ·rw[fh Ae]at Mm;have qd:b.qv id s p=b.jj id s:=by rw[dq.qv,fh (Sl.trans Ae)]
   obtain⟨_,_,_,_,_,e6⟩:=z7z b id hs;rw[qd]at ss;refine⟨λo ho=> ?_,λs' iP hh=> ?_⟩
   ·rcases(RS o).1 ho with rfl|ho
    ·rw[(ss s).1,(ss s).2,(e6 s hs).1,(e6 s hs).2,fh rfl,fh rfl,Ae];simp
    ·rw[Mm]at ho;obtain⟨o',oG,i1,i2,_,_,i5⟩:=yFl ho;rw[(ss _).1,(ss _).2,i5,(e6 o.side (by rw[i2];exact Fa o' oG)).1,(e6 o.side (by rw[i2];exact Fa o' oG)).2];by_cases e:o.side=s
     ·rw[fh e,fh e,fh e,As];symm;refine jv λe2=>Bg ?_
      rw[<- e2,i1];exact si oG
     ·rw[ez e,ez e,ez e,ht.fl o' oG,i1,i2]
   ·rw[(ss s').2,(e6 s' iP).2];by_cases e:s'=s
    ·rw[fh e];exact⟨_,(RS _).2 (.inl rfl),e.symm,rfl⟩
    ·rw[(ss s').1,(e6 s' iP).1,ez e]at hh;rw[ez e];obtain⟨o,ho,o1,o2⟩:=ht.th s' iP hh;exact⟨o,(RS _).2 (.inr (by rw[Mm];exact yXf ho (by rw[o1];exact e))),o1,o2⟩
  ·rw[ez Ae]at Mm;have hlf:fS (b.flat Q) s p=av:=i9 Ae
   have qd:b.qv id s p=b:=by rw[dq.qv,ez (by rw[Sl];exact Ae)]
   rw[qd]at ss;refine⟨λo ho=> ?_,λs' iP hh=> ?_⟩
   ·rw[(ss _).1,(ss _).2];rcases(RS o).1 ho with rfl|ho
    ·show fS (b.flat Q) s p=(b.my s && decide (id=b.jc s));rw[hlf];cases hh:b.my s with
     |false=>rfl
     |true=>
      rw[As];symm;refine jv λe2=>Bg ?_
      obtain⟨o,ho,_,o2⟩:=ht.th s hs hh;rw[e2,<- o2];exact si ho
    ·rw[Mm]at ho;exact ht.fl o ho
   ·rw[(ss s').1]at hh;rw[(ss s').2];obtain⟨o,ho,o1,o2⟩:=ht.th s' iP hh;exact⟨o,(RS _).2 (.inr (by rw[Mm];exact ho)),o1,o2⟩
 ·rw[BP];exact k3.symm
def dq.ga.ld {b:dq} {L:List zJ} (h:b.ga L) (id:Int):(ld b.at_ id).isSome=vQ L id:=by
 obtain⟨Q,c,ht,rfl⟩:=h;cases hg:Sx.ld b.at_ id with
 |none=>
  have:=ZZ hg;rw[c.Ad.mem_iff,<- kr]at this;symm;simpa using this
 |some x=>
  have:=si (f:=(·.1)) (P0 hg)
  rw[c.Ad.mem_iff,<- kr]at this;symm;exact this
def dq.ga.len {b:dq} {L:List zJ} (h:b.ga L):b.at_.length=L.length:=by
 obtain⟨Q,c,ht,rfl⟩:=h;exact c.len
def dq.ga.add {b:dq} {L:List zJ} (h:b.ga L) {s:Int} (hs:s=1\/s=2) (id p q:Int):(b.iC s id p q).1.ga (CB L s id p q).1/\(b.iC s id p q).2=(CB L s id p q).2:=by
 rw[dq.iC,CB,h.ld,h.len]
 repeat' split
 all_goals first|exact⟨h,rfl⟩|skip
 rename_i c1 c2 c3;exact⟨h.pw hs (λe=>c2 (kr.2 e)) oM oM,rfl⟩
def yJl:oc.ga []:=by
 refine⟨[],⟨⟨⟨by simp[oc,Pn],rfl,λn l h=>by simp at h,λn l h=>by simp at h,λn l h=>by simp at h,λk s hk hu=> ?_,?_⟩,λn l h=>by simp at h⟩,λs hs=> ?_,λq hq=>by simp[oc,dq.qs]at hq,by simp[oc,dq.qs],rfl,λs hs r hr=> ?_,λq hq=>by simp[oc]at hq,?_,?_,Z8⟩,⟨λo ho=>(by cases ho),λs hs hh=> ?_⟩,?_⟩
 ·have:=lh hk;rw[XF this]at hu;cases hu
 ·decide
 ·rcases hs with rfl|rfl<;>exact List.Pairwise.nil
 ·rcases hs with rfl|rfl<;>cases hr
 ·exact List.Perm.refl _
 ·exact Oc
 ·rcases hs with rfl|rfl<;>cases hh
 ·rfl
structure Fq where
 b:dq
 s:Int
 r:xY
 l:List Nat
def Fq.oy (i:Fq):List zJ:=(i.b.a.fy i.l).map λe=>⟨e.id,i.s,i.r.dm,e.dr,e.top⟩
def D1:gh:=fp Fq (λi=>[.nm 0 0,zB i.s,.agg [zB i.r.dm,zB i.r.queue]]) (λi=>[yA i.b]) (λi=>i.b.a.pz i.r.queue i.l) (λ_=> .own 1) (λi=>[yA i.b,.own 174 5 (i.oy.map wV)])
def yVs (i:Fq):List gr:=[{ι:=Nat,du:=λj=>[(7,.own 0),(18,zB j)],rows:=λj=>[.own 174 5 ((i.oy.take j).map wV)]}]
def dK (a:Mx):=(ab EM (a.a.fy a.l))
def yIh (i:Fq):Prop:=
 ∃(a:Mx),a.n=i.r.queue/\aw dv 3 zH a.a=aw dv 3 zH i.b.a/\a.a.pz a.n a.l/\ff (∃(c:Nat),(c:Int)=0/\ab wV (ac c i.oy)=[]/\∃(d:Nat->Prop),∃(e:Nat->Nat),d c/\∀(f:Nat),d f->dp (decide ((f:Int)<((dK a).length:Int))) ((0<=(f:Int)/\(f:Int)<((dK a).length:Int))/\∃(g:Int),∃(h:Int),∃(j:Int),∃(k:Bool),zD (dK a) (f:Int).toNat 0 4=ba [dI g,dI h,dI j,D.v (.bool k)]/\((ab wV (ac f i.oy)).length+1)*(40:Nat)<=(140737488355328:Nat)/\∃(l:Nat),(l:Int)=bu.wrap ((f:Int)+1)/\ab wV (ac l i.oy)=ab wV (ac f i.oy)++[[dI h,dI i.s,dI i.r.dm,dI j,D.v (.bool k)]]/\d l/\e l<e f/\dl (aw dv 3 zH a.a)/\dl (ay 363 4 (dK a))/\dl (ax [V.d (dI i.r.dm),V.d (dI i.r.queue)] 340)/\dl (ax [V.nm 1 0,V.own 2,V.own 3,V.mp 4,V.d (dI i.b.iK),V.d (dI i.b.iJ),V.own 5,V.d (D.v (.bool i.b.gv)),V.d (D.v (.bool i.b.gq))] (284:cf))/\QP i.b (dl (ay 3 1 (iE i.b.spare)))) (dx (Q9 i.b (aw dv 3 zH i.b.a=aw dv 3 zH a.a/\QQ i.b (ab wV i.oy=ab wV (ac f i.oy)/\True)))))
def xJn {l:List Eu} {k:Nat} {e:Eu} (h:l[k]? =ba e):zD (l.map EM) k 0 4=ba [D.v (.int .i64 e.slot),.v (.int .i64 e.id),.v (.int .i64 e.dr),.v (.bool e.top)]:=jz h (by simp[EM]) rfl
def yWz (i:Fq) (h:D1.dp i):yIh i:=by
 have h:i.b.a.pz i.r.queue i.l:=h;have hl:=h.len;have hen:(i.b.a.fy i.l).length=i.l.length:=by simp[dv.fy]
 have uf:i.oy.length=i.l.length:=by simp[Fq.oy,dv.fy]
 unfold yIh Q9 QP QQ ff dx dK dI;refine⟨⟨i.b.a,i.r.queue,i.l⟩,rfl,rfl,h,λ_ _=> ?_⟩;simp only[ia];refine⟨0,rfl,rfl,λj=>j<=i.l.length,λj=>i.l.length-j,mn _,λj hj=>zG (λc=> ?_) (λc=> ?_)⟩
 ·obtain⟨e,he⟩:=zZ (l:=i.b.a.fy i.l) (i:=j) oM;have ho:i.oy[j]? =ba ⟨e.id,i.s,i.r.dm,e.dr,e.top⟩:=by rw[Fq.oy,qt,he];rfl
  refine⟨⟨oM,oM⟩,e.slot,e.id,e.dr,e.top,xJn he,by rw[nn];omega,j+1,qu oM,?_,oM,Z9,gn⟩;rw[qq,ho];simp[wV]
 ·have FW:j=i.l.length:=by omega
  subst FW;rw[mz (l:=i.oy) (by omega)]
  exact kp
def zYx:D1.ok Tryz.prog 241:=gx mixed (dw yQd fk) 0 i6 (λi=>yVs i) [0] Tryz.func241 yWz
open Go Go.RowKit Cv
def z6r {P:cd} {tS rt e sz oD:Nat} {z:Array bv} (hi:vW P tS=ba (e,sz,oD,z)) {w:bz} {g i c n k:Nat} {A:Option cg} {cur src:List bv} {T:cf}
 (hg:w.heap[g]? =ba (.cells cur.toArray T (0,0))) (hs:(bg sz n (.slice A n k)).run P w= .ok src.toArray w) (hl:src.length=n*sz) (td:i+n<=c) (Gd:i*sz+n*sz<=cur.length) (EB:∀v∈src,v.oq=au):
 fJ P (bo #[tS,tS] rt #[.slice (ba ⟨g,0,bc⟩) i c,.slice A n k]) w (.slice (ba ⟨g,0,bc⟩) (i+n) c) (World.ja w g (.cells (kx cur (i*sz) src).toArray T (0,0))):=by
 obtain⟨inf,zv,q1,q2,rfl,rfl,q5,rfl⟩:=jI hi;have lp:=vK (P:=P) src 0 (i*inf.size) cur w hg oM EB;simp only[FE]at lp;have hln:∀w,(Builtin.lenOf (.slice A n k)).run P w= .ok n w:=λw=>rfl
 unfold fJ bo;simp only[Bc,CG,Bd,bind,pure,run_bind,Sem.bind,Sem.run,Cv.run_underlying q1,Cv.run_sizeOf q2,oR,if_false,hs,hln,td,if_true,h9,nq,lp,JZ]
def z9v {P:cd} {tS ty e sz oD:Nat} {z:Array bv} (hi:vW P tS=ba (e,sz,oD,z)) (hz:z.size=sz) (h1:∀v∈z.toList,v.oq=au) {w:bz} {g o n c:Nat} {cur:List bv} {T:cf} (hn:0<n)
 (hg:w.heap[g]? =ba (.cells cur.toArray T (0,0))) (Gd:o+n*sz<=cur.length):
 fJ P (Builtin.clear_ #[tS] ty #[.slice (ba ⟨g,o,bc⟩) n c]) w (.tuple #[]) (World.ja w g (.cells (kx cur o (be z n).toList).toArray T (0,0))):=by
 obtain⟨inf,zv,q1,q2,rfl,rfl,q5,rfl⟩:=jI hi;have hlz:(be zv.cells n).toList.length=n*inf.size:=by rw[J8,ce,hz]
 have lp:=vK (P:=P) (be zv.cells n).toList 0 o cur w hg oM (by
  intro v hv;obtain⟨i,hi,rfl⟩:=List.getElem_of_mem hv;simp only[be,Array.getElem_toList,Array.getElem_map,Array.getElem_range];have xf:0<zv.cells.size:=by
   rcases Nat.eq_zero_or_pos zv.cells.size with h0|h0
   ·rw[hlz,<- hz,h0]at hi;omega
   ·exact h0
  have gu:i % zv.cells.size<zv.cells.size:=Nat.mod_lt _ xf;rw[getElem!_pos zv.cells (i % zv.cells.size) gu];exact h1 _ (by simp))
 simp only[FE]at lp;have E8:∀w,(zeroValue e).run P w= .ok zv w:=λw=>me (by unfold zero?;rw[q2];exact q5) w
 obtain⟨m,rfl⟩:∃m,n=m+1:=⟨n-1,oM⟩
 unfold fJ Builtin.clear_;simp only[Bc,CG,Bd,bind,pure,run_bind,Sem.bind,Sem.run,Cv.run_underlying q1,E8,lp]
def y5b (P:cd) (tS sz:Nat) (s:Option cg) (sn sk:Nat) (i j:Int) (w:bz) (R:Ending->bz->Prop):Prop:=
y5i s sk i j (sn:Int) sz λa1 na1 ka1=>
dp ((i:Int)==j) (
R (.returned (.slice s sn sk)) w) (
Xl w λw2=>
tp s sn sk bc (ba i) sz λa3 na3 ka3=>
tp s sn sk (ba j) bc sz λa4 na4 ka4=>
∃(a5:Option cg) (IC Ka:Nat),∃w6:bz,fJ P (bo #[tS,tS] tS #[.slice a3 na3 ka3,.slice a4 na4 ka4]) w2 (.slice a5 IC Ka) w6/\
tp a5 IC Ka (ba (IC:Int)) (ba (sn:Int)) sz λa7 na7 ka7=>
∃w8:bz,fJ P (Builtin.clear_ #[tS] 0 #[.slice a7 na7 ka7]) w6 (.tuple #[]) w8/\
R (.returned (.slice a5 IC Ka)) w8)
def xIg {P:cd} {tS e sz oD:Nat} {z:Array bv} (hi:vW P tS=ba (e,sz,oD,z)) (hz:z.size=sz) (L8:∀v∈z.toList,v.oq=au)
 {k:Ko} {w:bz} {L:List HP} {s:Option cg} {sn sk i j:Nat} {xs:List bv} (H:Hp k w (ou e sz s sn sk xs::L)) (h1:∀u∈xs,u.oq=au) (Kj:i<j) (hj:j<=sn):
 y5b P tS sz s sn sk i j w λen w'=>∃a kk,en= .returned (.slice a (sn-(j-i)) kk)/\Hp k w' (ou e sz a (sn-(j-i)) kk (xs.take (i*sz)++xs.drop (j*sz))::L):=by
 obtain⟨CK,IK⟩:=H.len;rcases H.oE with⟨_,e0,_⟩|⟨b,r,rfl,g1,g2,g3,H0⟩
 ·omega
 have hle:i*sz<=xs.length:=by rw[CK];exact xj _ oM
 have aaK:j*sz<=xs.length:=by rw[CK];exact xj _ hj
 have Mg:(xs.drop (j*sz)).length=(sn-j)*sz:=by rw[pd,CK,Nat.sub_mul]
 have CU:i*sz+(sn-j)*sz=(sn-(j-i))*sz:=by rw[<- zq];congr 1;omega
 have KV:i*sz+(sn-j)*sz+(j-i)*sz=sn*sz:=by rw[<- zq,<- zq];congr 1;omega
 have aa2:j*sz+(sn-j)*sz=sn*sz:=by rw[<- zq];congr 1;omega
 have hlen:(xs++r).length=xs.length+r.length:=iv;unfold y5b;simp only[y5i,tp,ot];refine⟨⟨oM,oM,oM,oM⟩,Cv.dp.mk (λc=>absurd c (by simp;omega)) λ_=> ?_⟩;rintro _ rfl;have H1:=H0.drew;have EA:(bg sz (sn-j) (.slice (if sk=j then ba ⟨b,0,bc⟩else(ba ⟨b,0,bc⟩:Option cg).map (·.add (j*sz))) (sn-j) (sk-j))).run P w.drew= .ok (xs.drop (j*sz)).toArray w.drew:=by
  by_cases h0:(sn-j)*sz=0
  ·have:xs.drop (j*sz)=[]:=xq oM;rw[this];by_cases hk:sk=j
   ·rw[fh hk];unfold bg;rw[h0];rfl
   ·rw[ez hk,wg,h9];unfold bg;rw[h0];rfl
  ·have hk:sk≠j:=by rintro rfl;have:sn-sk=0:=by omega
                    rw[this]at h0;simp at h0
   rw[ez hk,wg,h9];unfold bg;rw[fF H1.get (by rw[hlen];omega)];rw[nq,HI aaK,yp (by omega),mz (by omega)]
 refine⟨⟨oM,oM⟩,⟨oM,oM,IK⟩,_,_,_,_,z6r (i:=i) (c:=sk) hi H1.get EA Mg oM (by rw[hlen];omega) (λv hv=>h1 v (J9 hv)),⟨oM,oM,oM⟩,?_⟩;have H2:=H1.yz (.cells (kx (xs++r) (i*sz) (xs.drop (j*sz))).toArray e);have e1:i+(sn-j)=sn-(j-i):=by omega
 rw[ez (show sk≠i+(sn-j)by omega),wg,h9,nq,e1];have TB:kx (xs++r) (i*sz) (xs.drop (j*sz))=(xs.take (i*sz)++xs.drop (j*sz))++(xs++r).drop ((sn-(j-i))*sz):=by
  simp only[kx];rw[yp hle,Mg,CU]
 rw[TB]at H2;have hA:(xs.take (i*sz)++xs.drop (j*sz)).length=(sn-(j-i))*sz:=by
  rw[iv,nn,Mg];omega
 have hB:((xs++r).drop ((sn-(j-i))*sz)).length=(j-i)*sz+r.length:=by
  rw[pd,hlen];omega
 rw[TB];have hn:sn-(sn-(j-i))=j-i:=by omega
 rw[hn];refine⟨_,z9v hi hz L8 oM H2.get (by rw[iv,hA,hB];omega),_,_,rfl,?_⟩;have H3:=H2.yz (.cells (kx (xs.take (i*sz)++xs.drop (j*sz)++(xs++r).drop ((sn-(j-i))*sz)) ((sn-(j-i))*sz) (be z (j-i)).toList).toArray e);have es:=z2b (xs.take (i*sz)++xs.drop (j*sz)) ((xs++r).drop ((sn-(j-i))*sz)) (be z (j-i)).toList;rw[hA]at es;rw[es]at H3;rw[es];rw[jd (xs.take (i*sz)++xs.drop (j*sz))]at H3 ⊢;have Du:(be z (j-i)).toList.length=(j-i)*sz:=by rw[J8,ce,hz]
 refine H3.AH hA ?_ oM;rw[iv,hA,iv,Du,pd,hB,<- g2,hlen,CK];omega
structure LF where
 fa:Q_ D
 i:Nat
 j:Nat
def W7 (e sz:Nat):gh where
 ι:=LF
 pat:=λi=>[.own 0,.d (.v (.int .i64 i.i)),.d (.v (.int .i64 i.j))]
 pre:=λi=>[.own e sz i.fa]
 dp:=λi=>i.i<i.j/\i.j<=i.fa.length
 alts:=λi=>[{o:=Unit,res:=λ_=> .own 1,post:=λ_=>[.gone,.own e sz (i.fa.take i.i++i.fa.drop i.j)],rel:=λ_=>True}]
def D6 {P:cd} (hm:P.follows .mixedOrders=au) {tS e sz oD fI:Nat} {z:Array bv} {fn:Func} {c:Code} (hf:P.funcs[fI]? =ba fn) (hb:fn.body=ba c) (BD:gU P fI=au) (oX:xl fn.ntmps c=au) (Mf:okF [] c=au) (My:Nat.ble 3 fn.ntmps=au)
 (hi:vW P tS=ba (e,sz,oD,z)) (hz:z.size=sz) (L8:∀v∈z.toList,v.oq=au)
 (heq:∀(s:Option cg) (sn sk:Nat) (i j:Int) (w:bz) (R:Ending->bz->Prop),y5b P tS sz s sn sk i j w R=Fk P [] c (WS P fn R) (gF [.slice s sn sk,.int .i64 i,.int .i64 j]) w):
 (W7 e sz).ok P fI:=by
 intro i hc k L E w ys R hv;obtain⟨c1,c2⟩:i.i<i.j/\i.j<=i.fa.length:=hc;simp only[W7,ib,VR,DR]at hv;obtain⟨y0,_,rfl,⟨l0,e0,_⟩,y1,_,rfl,⟨rfl,_⟩,y2,_,rfl,⟨rfl,_⟩,rfl⟩:=hv;obtain⟨s,sk,xs,aab,g1,wk,hu,H⟩:=R.su (n:=0) (t:=e) (sz:=sz) (fa:=i.fa) rfl;rw[e0]at g1;cases g1;have H2:Hp k w (ou e sz s i.fa.length sk xs::fz E.F::L):=H;have hv:=xIg hi hz L8 H2 wk.one c1 c2;have xa:=zOi (args:=[.slice s i.fa.length sk,.int .i64 i.i,.int .i64 i.j]) hm hf hb [] oX Mf My (heq s i.fa.length sk i.i i.j w _) hv;refine pD BD (xa.mono ?_);rintro en w' ⟨a,kk,rfl,H3⟩;have hl:(i.fa.take i.i++i.fa.drop i.j).length=i.fa.length-(i.j-i.i):=by
  rw[iv,nn,pd];omega
 have H4:Hp k w' (ou e sz a (i.fa.take i.i++i.fa.drop i.j).length kk (xs.take (i.i*sz)++xs.drop (i.j*sz))::(([]:List (Nat×fq)).map (ic E)++fz E.F::L)):=by
  rw[hl];exact H3
 obtain⟨E',r1,r2,r3⟩:=aN (nx:=1) R.nx (by
  rw[Oo,<- rY i.i hu,<- sG i.j hu];exact(wk.take _).append (wk.drop _)) (λx hx=>by
   rcases oK.1 hx with hx|hx
   ·exact hu x (Ot hx)
   ·exact hu x (J9 hx)) H4
 rw[hl]at r3;refine⟨_,rfl,_,ua.2 rfl,(),trivial,E',r1,r3,⟨r2.nx,?_⟩⟩;exact((@gV k w' True _).2 ⟨trivial,r2.hp⟩).imp (B:=ic E' (0,.gone)) λx hx=> .inl ⟨rfl,hx.2⟩
def rK (k:Int):List (Int×Place)->List (Int×Place)
 |[]=>[]
 |(a,b)::l=>if k=a then l else(a,b)::rK k l
structure BI where
 b:dq
 id:Int
 dm:Int
 slot:Int
def dq.ki (b:dq) (s id:Int):dq:=if b.my s=au/\b.jc s=id then(if s=1 then{b with gv:=av}else{b with gq:=av})else b
def dq.iL (b:dq) (s id dm:Int):dq:=
 if(b.a.qg ((b.dz s).getD (yB s (b.dz s) dm) ⟨0,0⟩).queue).count=0 then
  ({b.ki s id with at_:=rK id b.at_,spare:=b.spare++[((b.dz s).getD (yB s (b.dz s) dm) ⟨0,0⟩).queue]}:dq).ri s ((b.dz s).take (yB s (b.dz s) dm)++(b.dz s).drop (yB s (b.dz s) dm+1))
 else{b.ki s id with at_:=rK id b.at_}
def y0a (b:dq):fq:= .cells [.nm 1 0,.own 6,.own 7,.mp 4,zB b.iK,zB b.iJ,.own 8,yL b.gv,yL b.gq] 284
@[reducible] def y3x (b:dq):List fq:=[y0a b,zR b 1,.gone,.gone,zR b 4,.gone,zR b 2,zR b 3,zR b 5]
@[reducible] def BI.ok (i:BI) (s:Int):Prop:=i.b.small/\yB s (i.b.dz s) i.dm<(i.b.dz s).length
def yQt (s:Int):gh:=fp BI (λi=>[.nm 0 0,zB i.id,.agg [zB s,zB i.dm,zB i.slot]]) (λi=>JD i.b) (λi=>i.ok s) (λ_=>rE) (λi=>y3x (i.b.iL s i.id i.dm))
def GV:gh:=yQt 1
def GU:gh:=yQt 2
structure DrJ where
 i:BI
 s:Bool
def Ut:gh:=fp DrJ (λj=>[.nm 0 0,zB j.i.id,.agg [zB (zF j.s),zB j.i.dm,zB j.i.slot]]) (λj=>JD j.i.b) (λj=>j.i.ok (zF j.s)) (λ_=>rE) (λj=>y3x (j.i.b.iL (zF j.s) j.i.id j.i.dm))
def Uw:gh:=W7 340 2
def y4n:zJ:=⟨0,0,0,0,av⟩
def c8 (L:List zJ) (id:Int):zJ:=(L.find? λo=>decide (o.id=id)).getD y4n
def wX (L:List zJ) (id q:Int):List zJ:=L.filterMap λo=>if o.id=id then(if o.dr=q then bc else ba {o with dr:=o.dr-q})else ba o
def qK (L:List zJ) (id q:Int):List zJ×Int:=if vQ L id=av then(L,26)else if q<1\/(c8 L id).dr<q then(L,24)else(wX L id q,0)
def vl (L:List zJ) (s p:Int):List zJ:=L.filter λo=>decide (o.side=s) && decide (o.dm=p)
def xw:List zJ->List Lv
 |[]=>[]
 |o::l=>match xw l with
  |[]=>[⟨o.dm,o.dr,1⟩]
  |v::vs=>if v.dm=o.dm then⟨v.dm,o.dr+v.dr,v.count+1⟩::vs else⟨o.dm,o.dr,1⟩::v::vs
def uE (L:List zJ) (s:Int):List Lv:=xw (L.filter λo=>decide (o.side=s))
def iG (L:List zJ) (s:Int):Lv×Bool:=match uE L s with
 |[]=>(⟨0,0,0⟩,av)
 |v::_=>(v,au)
structure Ic where
 b:dq
 L:List zJ
structure CR where
 b:dq
 L:List zJ
 id:Int
 dr:Int
structure IY where
 b:dq
 L:List zJ
 s:Bool
 dm:Int
def K6:gh where
 ι:=CR
 pat:=λi=>[.nm 0 0,zB i.id,zB i.dr]
 pre:=λi=>[yA i.b]
 dp:=λi=>i.b.ga i.L
 alts:=λi=>[{o:=dq,res:=λ_=>zB (qK i.L i.id i.dr).2,post:=λb=>[yA b],rel:=λb=>b.ga (qK i.L i.id i.dr).1}]
def G0:gh:=fp CR (λi=>[.nm 0 0,zB i.id]) (λi=>[yA i.b]) (λi=>i.b.ga i.L) (λi=> .je [N' (c8 i.L i.id),yL (vQ i.L i.id)]) (λi=>[yA i.b])
def xEd (s:Bool):gh:=fp IY (λi=>[.nm 0 0,zB (zF s),zB i.dm]) (λi=>[yA i.b]) (λi=>i.b.ga i.L) (λ_=> .own 1) (λi=>[yA i.b,.own 174 5 ((vl i.L (zF s) i.dm).map wV)])
def TL:gh:=xEd av
def TK:gh:=xEd au
def atC:gh:=fp IY (λi=>[.nm 0 0,zB (zF i.s),zB i.dm]) (λi=>[yA i.b]) (λi=>i.b.ga i.L) (λ_=> .own 1) (λi=>[yA i.b,.own 174 5 ((vl i.L (zF i.s) i.dm).map wV)])
def xH (a:BI):=(a.b.iL 1 a.id a.dm)
@[reducible] def Yt (a:oH)(b:BI)(R:Prop):Prop:=aw dv 3 zH a.b.a=zR b.b 1/\ab zC a.b.fv=ab zC b.b.fv/\ab zC a.b.fc=ab zC b.b.fc/\jw a.b.at_=CE (cm bu b.id) (jw b.b.at_)/\iE a.b.spare=iE b.b.spare/\(qT a)/\R
@[reducible] def H9 (a:ur)(b:Int)(c:dq)(R:Prop):Prop:=a.n=b/\aw dv 3 zH a.a=aw dv 3 zH c.a/\R
@[reducible] def Qd1 (a:BI)(b:dq)(c:ur)(R:Prop):Prop:=(xH a).iK=b.iK/\(xH a).iJ=b.iJ/\(xH a).gv=b.gv/\(xH a).gq=b.gq/\aw dv 3 zH (xH a).a=aw dv 3 zH c.a/\jw (xH a).at_=jw b.at_/\R
def zLc (a:oH) (b:BI):Prop:=a.b.gq=b.b.gq/\Yt a b (ff ((f9 a)/\∃(d:Int),zD (ab zC a.b.fv) (qF a).toNat 1 1=ba [dI d]/\∃(e:ur),H9 e d a.b (True/\ff (dp ((e.a.qg e.n).count==0) (((iE a.b.spare).length+1)*(8:Nat)<=(140737488355328:Nat)/\∃(g:LF),(g.i:Int)=(qF a)/\(g.j:Int)=bu.wrap ((qF a)+1)/\g.fa=ab zC a.b.fv/\(g.i<g.j/\g.j<=g.fa.length)/\ff (dl ((1:Int))/\dx (Qd1 b a.b e (ab zC (xH b).fv=ac g.i g.fa++ar g.j g.fa/\ab zC (xH b).fc=ab zC a.b.fc/\iE (xH b).spare=iE a.b.spare++[[dI d]]/\True)))) (dx (Qd1 b a.b e (ab zC (xH b).fv=ab zC a.b.fv/\ab zC (xH b).fc=ab zC a.b.fc/\iE (xH b).spare=iE a.b.spare/\True)))))))
@[reducible] def Q7 (a b:dq)(R:Prop):Prop:=a.iK=b.iK/\a.iJ=b.iJ/\a.gv=b.gv/\R
def ZY (a:BI):Prop:=∃(b:oH),dl ((1:Int))/\b.dm=a.dm/\Q7 b.b a.b (zLc b a)
def yMj (i:BI):Prop:=
 (∀(a:bv×List D),a∈jw i.b.at_->mc (cm bu i.id) a.fst=au)/\dp i.b.gv (dp (i.b.iK==i.id) (∃(a:oH),dl ((1:Int))/\a.dm=i.dm/\a.b.iK=i.b.iK/\a.b.iJ=i.b.iJ/\a.b.gv=av/\zLc a i) (ZY i)) (ZY i)
def xJ (a:BI):=(a.b.iL 2 a.id a.dm)
@[reducible] def Qa3 (a:BI)(b:dq)(c:ur)(R:Prop):Prop:=(xJ a).iK=b.iK/\(xJ a).iJ=b.iJ/\(xJ a).gv=b.gv/\(xJ a).gq=b.gq/\aw dv 3 zH (xJ a).a=aw dv 3 zH c.a/\jw (xJ a).at_=jw b.at_/\ab zC (xJ a).fv=ab zC b.fv/\R
def zMt (a:oH) (b:BI):Prop:=Yt a b (ff ((f8 a)/\∃(d:Int),zD (ab zC a.b.fc) (qE a).toNat 1 1=ba [dI d]/\∃(e:ur),H9 e d a.b (True/\ff (dp ((e.a.qg e.n).count==0) (((iE a.b.spare).length+1)*(8:Nat)<=(140737488355328:Nat)/\∃(g:LF),(g.i:Int)=(qE a)/\(g.j:Int)=bu.wrap ((qE a)+1)/\g.fa=ab zC a.b.fc/\(g.i<g.j/\g.j<=g.fa.length)/\ff (dl ((2:Int))/\dx (Qa3 b a.b e (ab zC (xJ b).fc=ac g.i g.fa++ar g.j g.fa/\iE (xJ b).spare=iE a.b.spare++[[dI d]]/\True)))) (dx (Qa3 b a.b e (ab zC (xJ b).fc=ab zC a.b.fc/\iE (xJ b).spare=iE a.b.spare/\True)))))))
def zMw (a:BI):Prop:=∃(b:oH),dl ((2:Int))/\b.dm=a.dm/\Q7 b.b a.b (b.b.gq=a.b.gq/\zMt b a)
def yPs (i:BI):Prop:=
 (∀(a:bv×List D),a∈jw i.b.at_->mc (cm bu i.id) a.fst=au)/\dp i.b.gq (dp (i.b.iJ==i.id) (∃(a:oH),dl ((2:Int))/\a.dm=i.dm/\Q7 a.b i.b (a.b.gq=av/\zMt a i)) (zMw i)) (zMw i)
def zFf (a:CR):Prop:=QQ a.b (True)
def zLp (a:Int) (b:CR) (c:Int) (d:Int):Prop:=∃(e:ur),H9 e a b.b (e.a.du.length<=1000000/\ff (dx ((c8 b.L b.id).id=b.id/\(c8 b.L b.id).side=c/\(c8 b.L b.id).dm=d/\(c8 b.L b.id).dr=(e.a.nu e.n).fst.dr/\(c8 b.L b.id).top=(e.a.nu e.n).fst.top/\vQ b.L b.id=au/\Q9 b.b (aw dv 3 zH b.b.a=aw dv 3 zH e.a/\zFf b))))
def lA (a:CR) (b:Int) (c:Int) (d:Int) (e:Bool):Prop:=jK (cm bu a.id) (jw a.b.at_)=ba [dI b,dI c,dI d]/\e=au\/jK (cm bu a.id) (jw a.b.at_)=bc/\[dI b,dI c,dI d]=[dI 0,dI 0,dI 0]/\e=av
def yQy (i:CR):Prop:=
 (∀(a:bv×List D),a∈jw i.b.at_->mc (cm bu i.id) a.fst=au)/\∃(a:Bool),∃(b:Int),∃(c:Int),∃(d:Int),(lA i b c d a)/\dp (!a) (dx ((c8 i.L i.id).id=0/\(c8 i.L i.id).side=0/\(c8 i.L i.id).dm=0/\(c8 i.L i.id).dr=0/\(c8 i.L i.id).top=av/\vQ i.L i.id=av/\Q9 i.b (dl (aw dv 3 zH i.b.a)/\zFf i))) ((zLp d i b c)/\d=d/\True/\zLp d i b c)
def VZ (a:dq) (b:CR):Prop:=QS a b.b (a.ga (qK b.L b.id b.dr).fst)
def uK (a:DrJ):=(a.i.b.iL (zF a.s) a.i.id a.i.dm)
def Zy (a:CR) (b:Int) (c:Int) (d:Int) (e:ur):Prop:=∃(f:DrJ),f.i.id=a.id/\zF f.s=b/\f.i.dm=c/\f.i.slot=d/\Q7 f.i.b a.b (f.i.b.gq=a.b.gq/\aw dv 3 zH f.i.b.a=aw dv 3 zH e.a/\QS f.i.b a.b (((Q0 f.i.b.a f.i.b (f.i.b.spare.length<=1000000))/\yB (zF f.s) (f.i.b.dz (zF f.s)) f.i.dm<(f.i.b.dz (zF f.s)).length)/\ff (∃(h:dq),(qK a.L a.id a.dr).snd=0/\h.iK=(uK f).iK/\h.iJ=(uK f).iJ/\h.gv=(uK f).gv/\h.gq=(uK f).gq/\aw dv 3 zH h.a=aw dv 3 zH (uK f).a/\ab zC h.fv=ab zC (uK f).fv/\ab zC h.fc=ab zC (uK f).fc/\jw h.at_=jw (uK f).at_/\iE h.spare=iE (uK f).spare/\h.ga (qK a.L a.id a.dr).fst)))
def YZ (a:Int) (b:Cq) (c:CR) (d:Int) (e:Int):Prop:=∃(f:ur),f.n=a/\aw dv 3 zH f.a=aw dv 3 zH (b.a.gw b.n b.dr).fst/\f.a.du.length<=1000000/\ff (dp (!(f.a.nu f.n).snd) (Zy c d e a f) (dp ((f.a.nu f.n).fst.id !=c.id) (Zy c d e a f) (∃(h:dq),(qK c.L c.id c.dr).snd=0/\Q7 h c.b (h.gq=c.b.gq/\aw dv 3 zH h.a=aw dv 3 zH f.a/\VZ h c))))
def y1q (i:CR):Prop:=
 (∀(a:bv×List D),a∈jw i.b.at_->mc (cm bu i.id) a.fst=au)/\∃(a:Bool),∃(b:Int),∃(c:Int),∃(d:Int),(lA i b c d a)/\dp (!a) (∃(e:dq),(qK i.L i.id i.dr).snd=26/\Q7 e i.b (e.gq=i.b.gq/\aw dv 3 zH e.a=aw dv 3 zH i.b.a/\VZ e i)) (∃(e:Cq),e.n=d/\e.dr=i.dr/\aw dv 3 zH e.a=aw dv 3 zH i.b.a/\(e.a.du.length<=1000000/\∀(k:Nat) (s:Slot),e.a.du[k]?=ba s->s.used=au->(0<=s.queue/\s.queue<(e.a.dy.length:Int))/\s.dr<=1000000/\(s.ahead=(-1)\/0<=s.ahead/\s.ahead<(e.a.du.length:Int)/\s.ahead≠(k:Int))/\(s.back=(-1)\/0<=s.back/\s.back<(e.a.du.length:Int)/\s.back≠(k:Int)))/\ff (dp ((e.a.gw e.n e.dr).snd !=0) (∃(g:dq),(qK i.L i.id i.dr).snd=(e.a.gw e.n e.dr).snd/\Q7 g i.b (g.gq=i.b.gq/\aw dv 3 zH g.a=aw dv 3 zH (e.a.gw e.n e.dr).fst/\VZ g i)) ((YZ d e i b c)/\d=d/\True/\YZ d e i b c)))
@[reducible] def Qf (a:dq)(R:Prop):Prop:=a.iK=a.iK/\a.iJ=a.iJ/\a.gv=a.gv/\a.gq=a.gq/\aw dv 3 zH a.a=aw dv 3 zH a.a/\ab zC a.fv=ab zC a.fv/\ab zC a.fc=ab zC a.fc/\jw a.at_=jw a.at_/\iE a.spare=iE a.spare/\R
def xGc (i:IY):Prop:=
 ∃(a:Int),a=zF av/\True/\ff (dp (kX a) (dx (Qf i.b (ab wV (vl i.L (zF av) i.dm)=[]/\True))) (∃(c:oH),1=zF av/\c.dm=i.dm/\Qe c.b i.b ((qT c)/\ff (dp (!jR 1 (c.b.dz 1) c.dm) (dx (Qe i.b c.b (ab wV (vl i.L (zF av) i.dm)=[]/\True))) ((f9 c)/\∃(e:Int),∃(f:Int),zD (ab zC c.b.fv) (qF c).toNat 0 2=ba [dI e,dI f]/\∃(g:Fq),g.s=zF av/\g.r.dm=e/\g.r.queue=f/\Qe g.b c.b (g.b.a.pz g.r.queue g.l/\ff (dx (yA i.b=yA g.b/\ab wV (vl i.L (zF av) i.dm)=ab wV g.oy/\True))))))))
def xEm (i:IY):Prop:=
 ∃(a:Int),a=zF au/\True/\ff (dp (kX a) (dx (Qf i.b (ab wV (vl i.L (zF au) i.dm)=[]/\True))) (∃(c:oH),2=zF au/\c.dm=i.dm/\Qe c.b i.b ((qT c)/\ff (dp (!jR 2 (c.b.dz 2) c.dm) (dx (Qe i.b c.b (ab wV (vl i.L (zF au) i.dm)=[]/\True))) ((f8 c)/\∃(e:Int),∃(f:Int),zD (ab zC c.b.fc) (qE c).toNat 0 2=ba [dI e,dI f]/\∃(g:Fq),g.s=zF au/\g.r.dm=e/\g.r.queue=f/\Qe g.b c.b (g.b.a.pz g.r.queue g.l/\ff (dx (yA i.b=yA g.b/\ab wV (vl i.L (zF au) i.dm)=ab wV g.oy/\True))))))))
def lM {L:List zJ} (h:(L.map (·.id)).Nodup) {o:zJ} (ho:o∈L):c8 L o.id=o:=by
 induction L with
 |nil=>cases ho
 |cons x L ih=>
  rw[jf,ym]at h;rw[c8,LV];rcases jx.1 ho with rfl|ho
  ·rw[jo rfl];rfl
  ·have:x.id≠o.id:=λe=>h.1 (e▸si (f:=(·.id)) ho)
   rw[jv this];exact ih h.2 ho
def mZ {α β:Type} {f g:α->Option β}:∀{l:List α},(∀x∈l,f x=g x)->l.filterMap f=l.filterMap g
 |[],_=>rfl
 |x::l,h=>by rw[List.filterMap_cons,List.filterMap_cons,h x iX,mZ λy hy=>h y (ji _ hy)]
def y7f {L:List zJ} {id:Int} (h:vQ L id=av):c8 L id=y4n:=by
 rw[c8];have:L.find? (λo=>decide (o.id=id))=bc:=by
  rw[af];intro o ho;rw[vQ,L0]at h;exact h o ho
 rw[this];rfl
structure Told (b:dq) (Q:Q_ Nat) (id:Int) (s:Int) (r:xY) (k:Nat):Prop where
 hs:s=1\/s=2
 hr:r∈b.dz s
 hk:k∈xL Q r
 e:ld b.at_ id=ba ⟨s,r.dm,k⟩
 ident:(b.a.fg k).id=id
 get:c8 (b.flat Q) id=uF b.a s r.dm k
 has:vQ (b.flat Q) id=au
def y0f {b:dq} {Q:Q_ Nat} {s:Int} (hs:s=1\/s=2) {r:xY} (hr:r∈b.dz s) {k:Nat} (hk:k∈xL Q r):uF b.a s r.dm k∈b.flat Q:=
 B9 hs (A8.2 ⟨r,hr,si hk⟩)
def dq.Core.told {b:dq} {Q:Q_ Nat} (c:b.Core Q (-1)) (id:Int):(ld b.at_ id=bc/\vQ (b.flat Q) id=av)\/∃s r k,Told b Q id s r k:=by
 cases hg:ld b.at_ id with
 |none=>
  have:=ZZ hg;rw[c.Ad.mem_iff,<- kr]at this;exact .inl ⟨rfl,i9 this⟩
 |some x=>
  obtain⟨k,r,hs,hr,hk,hx,Bg⟩:=c.S6 (P0 hg);have hm:=y0f hs hr hk;have km:=lM c.ids hm;have e:(uF b.a x.side r.dm k).id=id:=Bg;rw[e]at km;exact .inr ⟨x.side,r,k,hs,hr,hk,by rw[hg];exact congrArg ba hx,Bg,km,kr.2 (by rw[<- e];exact si hm)⟩
def Told.only {b:dq} {Q:Q_ Nat} (c:b.Core Q (-1)) {id s:Int} {r:xY} {k:Nat} (h:Told b Q id s r k) {s':Int} (iP:s'=1\/s'=2) {r':xY} (ov:r'∈b.dz s') {j:Nat} (hj:j∈xL Q r'):(b.a.fg j).id=id↔j=k:=by
 constructor
 ·intro e;have h1:=c.FM iP ov hj;have h2:=c.FM h.hs h.hr h.hk;rw[e]at h1;rw[h.ident]at h2;have:=congrArg Place.slot (UL c.keys h1 h2);dsimp only at this;omega
 ·rintro rfl;exact h.ident
def dq.Core.less {b:dq} {Q:Q_ Nat} (c:b.Core Q (-1)) (ht:b.BS (b.flat Q)) {id s:Int} {r:xY} {k:Nat} (h:Told b Q id s r k) {q:Int} (hq:1<=q/\q<(b.a.fg k).dr):
 (b.a.gw k q).2=0/\({b with a:=(b.a.gw k q).1}:dq).ga (wX (b.flat Q) id q)/\(b.a.gw k q).1.du.length=250/\(b.a.gw k q).1.nu k=((((b.a.gw k q).1.fg k)).pn,au)/\((b.a.gw k q).1.fg k).id=id:=by
 obtain⟨t1,t2,t3⟩:=c.wf.take (c.get h.hs h.hr) h.hk (q:=q) ⟨hq.1,oM⟩;rw[ez (by omega)]at t3;obtain⟨w,t4,t5⟩:=t3;have EF:∀j,((b.a.gw k q).1.fg j).pn=if j=k then{(b.a.fg k).pn with dr:=(b.a.fg k).dr-q}else(b.a.fg j).pn:=by
  intro j;split
  ·rename_i e;rw[e,t4];rfl
  ·rename_i e;exact(t2 j e).1
 have Bg:∀j,((b.a.gw k q).1.fg j).id=(b.a.fg j).id:=by
  intro j;have:=congrArg Eu.id (EF j);split at this
  ·rename_i e;rw[e]at this ⊢;exact this
  ·exact this
 have rz:({b with a:=(b.a.gw k q).1}:dq).flat Q=wX (b.flat Q) id q:=by
  have side:∀s',s'=1\/s'=2->({b with a:=(b.a.gw k q).1}:dq).iu Q s'=wX (b.iu Q s') id q:=by
   intro s' iP;rw[wX,dq.iu,dq.iu,List.filterMap_flatMap];refine xM λr' ov=> ?_
   rw[dq.ie,dq.ie,List.filterMap_map];have:(xL Q r').filterMap (λj=>ba (uF (b.a.gw k q).1 s' r'.dm j))=(xL Q r').map (uF (b.a.gw k q).1 s' r'.dm):=by rw[<- List.filterMap_eq_map];rfl
   refine this.symm.trans (mZ λj hj=> ?_);simp only[co,uF,yRk,EF];have X8:=h.only c iP ov hj;by_cases e:j=k
   ·subst e;rw[fh rfl];refine((fh (show(b.a.fg j).pn.id=id from h.ident)).trans (ez λe=> ?_)).symm;have e:(b.a.fg j).dr=q:=e;omega
   ·rw[ez e];exact(ez (λe2=>e (X8.1 e2))).symm
  rw[dq.flat,side 1 (.inl rfl),side 2 (.inr rfl),dq.flat,wX,wX,wX,List.filterMap_append]
 have hu:(b.a.gw k q).1.iy k=au:=by
  obtain⟨oY,⟨_,_,h2⟩,h3⟩:=w.toyw.mem (c.get h.hs h.hr) h.hk;have gu:=w.len;simp only[dv.iy,lr,tn,ot];exact⟨oM,oM,h2.used⟩
 refine⟨t1,⟨Q,c.flag w Bg,⟨λo ho=> ?_,λs' iP hh=> ?_⟩,rz.symm⟩,w.len,by rw[dv.nu,fh hu,ot],by rw[Bg,h.ident]⟩
 ·obtain⟨o',oG,e⟩:=Om.1 ho;have:=ht.fl o' oG;split at e
  ·split at e
   ·cases e
   ·cases e;exact this
  ·cases e;exact this
 ·obtain⟨o,ho,o1,o2⟩:=ht.th s' iP hh;by_cases e:o.id=id
  ·refine⟨{o with dr:=o.dr-q},Om.2 ⟨o,ho,?_⟩,o1,o2⟩;have hg:=lM c.ids ho;rw[e,h.get]at hg;rw[fh e,ez (λe2=>by
    rw[<- hg]at e2;have:(b.a.fg k).dr=q:=e2;omega)]
  ·exact⟨o,Om.2 ⟨o,ho,ez e⟩,o1,o2⟩
def yDh:∀{l:List (Int×Place)} {k:Int},(l.map (·.1)).Nodup->rK k l=l.filter λx=> !decide (x.1=k)
 |[],k,_=>rfl
 |(a,b)::l,k,h=>by
  rw[jf,ym]at h;rw[rK];by_cases e:k=a
  ·subst e;rw[fh rfl,RE (by simp)];symm;rw[IA];intro x hx;have:x.1≠k:=λe=>h.1 (e▸si (f:=(·.1)) hx)
   simp[this]
  ·rw[ez e,RF (by simp[Ne.symm e]),yDh h.2]
def zKf {l:List Nat} (h:l.Nodup) (k:Nat):l.erase k=l.filter λj=> !decide (j=k):=by
 rw[h.erase_eq_filter];refine ag λj _=> ?_
 simp[bne,BEq.beq]
def yMz {s:Int} {l:List xY} (hs:l.Pairwise λr r'=>jl s r.dm r'.dm=au) {R1 R2:List xY} {r:xY} (hl:l=R1++r::R2):yB s l r.dm=R1.length:=by
 subst hl;rw[ae]at hs;refine tM (by simp) (λk hk x hx=> ?_) (λx hx=> ?_)
 ·rw[Eg hk]at hx;exact hs.2.2 x (lh hx) r iX
 ·rw[Ch (ju _),JW]at hx;cases hx;exact NO _ _
def yUw (b:dq) (id:Int) {s:Int} (hs:s=1\/s=2):(b.ki s id).a=b.a/\(b.ki s id).fv=b.fv/\(b.ki s id).fc=b.fc/\(b.ki s id).spare=b.spare/\∀s',s'=1\/s'=2->(b.ki s id).jc s'=b.jc s'/\(b.ki s id).my s'=if s'=s/\b.jc s=id then av else b.my s':=by
 rw[dq.ki];by_cases hc:b.my s=au/\b.jc s=id
 ·rw[fh hc];rcases hs with rfl|rfl
  ·exact(nf (λs' h=>by rcases h with rfl|rfl;exact⟨rfl,(fh ⟨rfl,hc.2⟩).symm⟩;exact⟨rfl,(ez (λe=>absurd e.1 Z8)).symm⟩))
  ·exact(nf (λs' h=>by rcases h with rfl|rfl;exact⟨rfl,(ez (λe=>absurd e.1 Z8)).symm⟩;exact⟨rfl,(fh ⟨rfl,hc.2⟩).symm⟩))
 ·rw[ez hc];refine(nf (λs' h=>⟨rfl,?_⟩));split
  ·rename_i e;rw[e.1];cases hh:b.my s with
   |false=>rfl
   |true=>exact absurd ⟨hh,e.2⟩ hc
  ·rfl
def dq.Core.close {b:dq} {Q:Q_ Nat} {s:Int} (hs:s=1\/s=2) {r:xY} {R1 R2:List xY} (hr:b.dz s=R1++r::R2) (c:b.Core Q r.queue) (he:xL Q r=[]) {b':dq} (hb:b'=({b with spare:=b.spare++[r.queue]}:dq).ri s (R1++R2)):
 b'.Core Q (-1)/\b'.flat Q=b.flat Q:=by
 obtain⟨g1,g2⟩:=zRu ({b with spare:=b.spare++[r.queue]}:dq) hs (R1++R2);rw[<- hb]at g1 g2;have ha:b'.a=b.a:=by rw[hb];rcases hs with rfl|rfl<;>rfl
 have ta:b'.at_=b.at_:=by rw[hb];rcases hs with rfl|rfl<;>rfl
 have tr:b'.spare=b.spare++[r.queue]:=by rw[hb];rcases hs with rfl|rfl<;>rfl
 have FR:b'.qs.Perm b.qs:=by
  rw[hb];rcases hs with rfl|rfl
  ·have hr:b.fv=R1++r::R2:=hr;show((R1++R2).map (·.queue)++b.fc.map (·.queue)++(b.spare++[r.queue])).Perm (b.fv.map (·.queue)++b.fc.map (·.queue)++b.spare)
   rw[hr,<- jd];refine(RI _ _).trans ?_;simp only[jk,jf,jd,uh];exact mo.symm
  ·have hr:b.fc=R1++r::R2:=hr;show(b.fv.map (·.queue)++(R1++R2).map (·.queue)++(b.spare++[r.queue])).Perm (b.fv.map (·.queue)++b.fc.map (·.queue)++b.spare)
   rw[hr,<- jd];refine(RI _ _).trans ?_;simp only[jk,jf,jd,uh];refine .trans ?_ (cq _ mo.symm);exact mo.symm
 have o5:∀s',s'=1\/s'=2->b'.iu Q s'=b.iu Q s':=by
  intro s' iP;have ho:∀x,b'.ie Q s' x=b.ie Q s' x:=λx=>by rw[dq.ie,dq.ie,ha]
  rw[dq.iu,dq.iu];by_cases e:s'=s
  ·subst e;rw[g1,hr,yy,yy,vi,xM (λx _=>ho x),xM (l:=R2) (λx _=>ho x)];rw[show b.ie Q s' r=[]by rw[dq.ie,he];rfl,we]
  ·rw[g2 s' e iP];exact xM λx _=>ho x
 have zk:∀s',s'=1\/s'=2->b'.ml Q s'=b.ml Q s':=by
  intro s' iP;rw[dq.ml,dq.ml,ha];by_cases e:s'=s
  ·subst e;rw[g1,hr,yy,yy,vi,he,Bs,we]
  ·rw[g2 s' e iP];rfl
 have rz:b'.flat Q=b.flat Q:=by rw[dq.flat,dq.flat,o5 1 (.inl rfl),o5 2 (.inr rfl)]
 have qz:=FR.nodup_iff.2 c.nd;have aaG:r.queue∉(R1++R2).map (·.queue):=by
  intro hm;have h1:r.queue∈(b'.dz s).map (·.queue):=by rw[g1];exact hm
  rw[dq.qs]at qz;have h2:=(Au.1 qz).2.2 r.queue (by
   rcases hs with rfl|rfl
   ·exact yo _ h1
   ·exact zu _ h1) r.queue (by rw[tr];simp)
  exact h2 rfl
 refine⟨⟨by rw[ha];exact c.wf,λs' iP=> ?_,λq hq=>c.uj q (FR.mem_iff.1 hq),qz,by rw[FR.length_eq];exact c.ql,λs' iP x hx _=> ?_,λq hq=> ?_,by rw[ta,zk 1 (.inl rfl),zk 2 (.inr rfl)];exact c.at_,by rw[rz];exact c.ids,c.qb⟩,rz⟩
 ·by_cases e:s'=s
  ·subst e;have:=c.xk s' iP;rw[hr]at this;rw[g1];exact this.sublist (List.Sublist.append_left (List.sublist_cons_self _ _) _)
  ·rw[g2 s' e iP];exact c.xk s' iP
 ·by_cases e:s'=s
  ·subst e;rw[g1]at hx;refine c.ne s' iP x (by rw[hr];rcases oK.1 hx with h|h;exact yo _ h;exact zu _ (ji _ h)) λe2=>aaG (e2▸si (f:=(·.queue)) hx)
  ·rw[g2 s' e iP]at hx;refine c.ne s' iP x hx λe2=> ?_
   have h1:r.queue∈(b'.dz s').map (·.queue):=by rw[g2 s' e iP,<- e2];exact si (f:=(·.queue)) hx
   rw[dq.qs]at qz;exact(Au.1 qz).2.2 r.queue (by
    rcases iP with rfl|rfl
    ·exact yo _ h1
    ·exact zu _ h1) r.queue (by rw[tr];simp) rfl
 ·rw[tr]at hq;rcases oK.1 hq with hq|hq
  ·exact c.sp q hq
  ·rw[ua.1 hq];exact he
def zWd {L:List zJ} (h:(L.map (·.id)).Nodup) {id:Int} (hh:vQ L id=au):wX L id (c8 L id).dr=L.filter λo=> !decide (o.id=id):=by
 rw[wX,<- List.filterMap_eq_filter];refine mZ λo ho=> ?_
 by_cases e:o.id=id
 ·have hg:=lM h ho;rw[e]at hg;rw[fh e,fh (by rw[hg])];simp[Option.guard,e]
 ·rw[ez e];simp[Option.guard,e]
def dq.Core.gone {b:dq} {Q:Q_ Nat} (c:b.Core Q (-1)) (ht:b.BS (b.flat Q)) {id s:Int} {r:xY} {k:Nat} (h:Told b Q id s r k) {q:Int} (hq:1<=q/\q=(b.a.fg k).dr):
 (b.a.gw k q).2=0/\(({b with a:=(b.a.gw k q).1}:dq).iL s id r.dm).ga (wX (b.flat Q) id q)/\(b.a.gw k q).1.du.length=250/\(b.a.gw k q).1.dy.length=b.a.dy.length/\((b.a.gw k q).1.nu k).2=av/\yB s (b.dz s) r.dm<(b.dz s).length:=by
 obtain⟨t1,t2,t3⟩:=c.wf.take (c.get h.hs h.hr) h.hk (q:=q) ⟨hq.1,oM⟩;rw[fh hq.2.symm]at t3;obtain⟨w,t4,t5⟩:=t3;generalize hA:(b.a.gw k q).1=a1 at*;have km:=c.get h.hs h.hr;have FV:=(jm.1 km).1;have OJ:=c.uj _ (g8 h.hs h.hr);generalize SC:Q.set r.queue.toNat ((xL Q r).erase k)=Q' at*;have Km:Q'.length=Q.length:=by rw[<- SC,qm]
 have qz:(xL Q r).Nodup:=c.wf.nd _ _ km;have FT:∀s' (r':xY),(s'=1\/s'=2)->r'∈b.dz s'->xL Q' r'=(xL Q r').erase k:=by
  intro s' r' iP ov;by_cases e:r'.queue=r.queue
  ·have e1:xL Q r'=xL Q r:=by rw[xL,xL,e]
   rw[e1,xL,e,<- SC];exact zX (cQ FV)
  ·have h2:xL Q' r'=xL Q r':=by
    have:=c.uj _ (g8 iP ov);rw[xL,xL,mu,mu,<- SC,u7 (by omega)]
   rw[h2];symm;refine List.erase_of_not_mem λhk=> ?_
   have:=c.wf.toyw.one (c.get iP ov) km hk h.hk;have:=c.uj _ (g8 iP ov);omega
 have hQo:∀q:Int,0<=q->q≠r.queue->Q'.getD q.toNat []=Q.getD q.toNat []:=by
  intro q h0 jy;rw[<- SC,mu,u7 (by omega),mu]
 obtain⟨u1,u2,u3,u4,u5⟩:=yUw ({b with a:=a1}:dq) id h.hs;obtain⟨b1,qd⟩:∃b1:dq,b1={({b with a:=a1}:dq).ki s id with at_:=rK id b.at_}:=⟨_,rfl⟩
 have v1:b1.a=a1:=by rw[qd];exact u1
 have v2:b1.fv=b.fv:=by rw[qd];exact u2
 have v3:b1.fc=b.fc:=by rw[qd];exact u3
 have v4:b1.spare=b.spare:=by rw[qd];exact u4
 have v5:b1.at_=rK id b.at_:=by rw[qd]
 have v6:∀s',s'=1\/s'=2->b1.jc s'=b.jc s'/\b1.my s'=if s'=s/\b.jc s=id then av else b.my s':=by
  intro s' iP;rw[qd];exact u5 s' iP
 have vr:∀s',b1.dz s'=b.dz s':=by intro s';rw[dq.dz,dq.dz,v2,v3]
 have vq:b1.qs=b.qs:=by rw[dq.qs,dq.qs,v2,v3,v4]
 have AM:∀s',s'=1\/s'=2->b1.iu Q' s'=(b.iu Q s').filter (λo=> !decide (o.id=id))/\b1.ml Q' s'=(b.ml Q s').filter λx=> !decide (x.1=id):=by
  intro s' iP;rw[dq.iu,dq.iu,dq.ml,dq.ml,vr,List.filter_flatMap,List.filter_flatMap];have key:∀r'∈b.dz s',∀j∈xL Q r',((b.a.fg j).id=id↔j=k)/\(j≠k->uF a1 s' r'.dm j=uF b.a s' r'.dm j/\uR a1 s' r'.dm j=uR b.a s' r'.dm j):=by
   intro r' ov j hj;refine⟨h.only c iP ov hj,λe=> ?_⟩;have:=(t2 j e).1;refine⟨by rw[uF,uF,this],?_⟩;have:=congrArg Eu.id this;rw[uR,uR];exact congrArg (λi=>(i,(⟨s',r'.dm,j⟩:Place))) this
  refine⟨xM λr' ov=> ?_,xM λr' ov=> ?_⟩
  ·rw[dq.ie,dq.ie,FT s' r' iP ov,zKf (c.wf.nd _ _ (c.get iP ov)),aj,v1];have e1:(xL Q r').filter ((λo:zJ=> !decide (o.id=id))∘uF b.a s' r'.dm)=(xL Q r').filter λj=> !decide (j=k):=by
    refine ag λj hj=> ?_
    show(!decide ((b.a.fg j).id=id))=_;rw[decide_eq_decide.2 (key r' ov j hj).1]
   rw[e1];refine uc λj hj=> ?_
   rw[ug]at hj;exact((key r' ov j hj.1).2 (by simpa using hj.2)).1
  ·rw[FT s' r' iP ov,zKf (c.wf.nd _ _ (c.get iP ov)),aj,v1];have e1:(xL Q r').filter ((λx:Int×Place=> !decide (x.1=id))∘uR b.a s' r'.dm)=(xL Q r').filter λj=> !decide (j=k):=by
    refine ag λj hj=> ?_
    show(!decide ((b.a.fg j).id=id))=_;rw[decide_eq_decide.2 (key r' ov j hj).1]
   rw[e1];refine uc λj hj=> ?_
   rw[ug]at hj;exact((key r' ov j hj.1).2 (by simpa using hj.2)).2
 have rz:b1.flat Q'=(b.flat Q).filter λo=> !decide (o.id=id):=by
  rw[dq.flat,(AM 1 (.inl rfl)).1,(AM 2 (.inr rfl)).1,dq.flat,Cf]
 have ta:b1.at_.Perm (b1.ml Q' 1++b1.ml Q' 2):=by
  rw[v5,yDh c.keys,(AM 1 (.inl rfl)).2,(AM 2 (.inr rfl)).2,<- Cf];exact c.at_.filter _
 have hold:∀s' (r':xY),(s'=1\/s'=2)->r'∈b.dz s'->xL Q r'≠[]:=λs' r' iP ov=>c.ne s' iP r' ov λe=>by
  have:=c.uj _ (g8 iP ov);omega
 have c1:b1.Core Q' r.queue:=by
  refine⟨by rw[v1];exact w,λs' iP=>by rw[vr];exact c.xk s' iP,by rw[vq,Km];exact c.uj,by rw[vq];exact c.nd,by rw[vq,Km];exact c.ql,λs' iP r' ov jy=> ?_,λq hq=> ?_,ta,?_,by rw[Km];exact c.qb⟩
  ·rw[vr]at ov;have e:=hQo r'.queue (c.uj _ (g8 iP ov)).1 jy;rw[xL,e];exact hold s' r' iP ov
  ·rw[v4]at hq;have OL:q∈b.qs:=zu _ hq;rw[hQo q (c.uj q OL).1 λe=> ?_]
   ·exact c.sp q hq
   ·have AB:=c.nd;rw[dq.qs]at AB;refine(Au.1 AB).2.2 r.queue ?_ q hq e.symm;rcases h.hs with rfl|rfl
    ·exact yo _ (si (f:=(·.queue)) h.hr)
    ·exact zu _ (si (f:=(·.queue)) h.hr)
  ·rw[rz];exact c.ids.sublist (List.Sublist.map _ Ry)
 have htk:wX (b.flat Q) id q=b1.flat Q':=by
  rw[rz,<- zWd c.ids h.has,h.get,hq.2];rfl
 have hm1:∀o,o∈b1.flat Q'↔o∈b.flat Q/\o.id≠id:=by
  intro o;rw[rz,ug];simp
 have ht1:∀b2:dq,(∀x,b2.my x=b1.my x/\b2.jc x=b1.jc x)->b2.BS (b1.flat Q'):=by
  intro b2 ni;refine⟨λo ho=> ?_,λs' iP hh=> ?_⟩
  ·rw[(ni _).1,(ni _).2];obtain⟨ho,jy⟩:=(hm1 o).1 ho;have iP:=(sR ho).1;rw[(v6 _ iP).1,(v6 _ iP).2,ht.fl o ho];split
   ·rename_i e;rw[e.1,e.2,jv jy,JX,JX]
   ·rfl
  ·rw[(ni _).1,(v6 s' iP).2]at hh;rw[(ni _).2,(v6 s' iP).1];split at hh
   ·cases hh
   ·rename_i e;obtain⟨o,ho,o1,o2⟩:=ht.th s' iP hh;refine⟨o,(hm1 o).2 ⟨ho,λe2=>e ?_⟩,o1,o2⟩;have hg:=lM c.ids ho;rw[e2,h.get]at hg;have Fa:s'=s:=by rw[<- o1,<- hg];rfl
    exact⟨Fa,by rw[<- Fa,<- o2,e2]⟩
 obtain⟨R1,R2,o6⟩:=List.append_of_mem h.hr;have FX:=yMz (c.xk s h.hs) o6;have qn:(b.dz s).getD (yB s (b.dz s) r.dm) ⟨0,0⟩=r:=by
  rw[FX,o6];refine zX ?_;rw[Ch (ju _),JW];rfl
 have BC:yB s (b.dz s) r.dm<(b.dz s).length:=by rw[FX,o6];simp
 have hQr:Q'[r.queue.toNat]? =ba ((xL Q r).erase k):=by rw[<- SC];exact cQ FV
 have Nd:(a1.qg r.queue).count=((xL Q r).erase k).length:=by
  have:=w.q _ _ hQr;have IJ:=w.ql;rw[WX OJ.1 this]
 have er:xL Q' r=(xL Q r).erase k:=zX hQr;have hru:({b with a:=a1}:dq).dz s=b.dz s:=rfl;have R6:(a1.nu k).2=av:=by
  have:a1.iy k=av:=by
   have e:a1.fg k=iH:=t4;rw[dv.fg]at e;rw[dv.iy,ot,e];simp[iH]
  rw[dv.nu,ez (by rw[this];decide)]
 refine⟨t1,?_,w.len,by rw[w.ql,c.wf.ql,Km],R6,BC⟩;rw[dq.iL,hru,qn];by_cases hz:(a1.qg r.queue).count=0
 ·rw[fh hz];have he:xL Q' r=[]:=by
   rw[er];refine xq ?_;omega
  obtain⟨k1,k2⟩:=dq.Core.close h.hs (by rw[vr];exact o6) c1 he rfl;have ebk:(({({b with a:=a1}:dq).ki s id with at_:=rK id b.at_,spare:=b.spare++[r.queue]}:dq).ri s ((b.dz s).take (yB s (b.dz s) r.dm)++(b.dz s).drop (yB s (b.dz s) r.dm+1)))=(({b1 with spare:=b1.spare++[r.queue]}:dq).ri s (R1++R2)):=by
   have e1:(b.dz s).take (yB s (b.dz s) r.dm)++(b.dz s).drop (yB s (b.dz s) r.dm+1)=R1++R2:=by
    rw[FX,o6,JY];congr 1;rw[LZ,IB (by omega),Nat.add_sub_cancel_left];rfl
   rw[e1,v4,qd]
  refine⟨Q',?_,?_,?_⟩
  ·exact ebk▸k1
  ·rw[htk];refine ht1 _ λx=> ?_
   show(dq.my (({({b with a:=a1}:dq).ki s id with at_:=rK id b.at_,spare:=b.spare++[r.queue]}:dq).ri s ((b.dz s).take (yB s (b.dz s) r.dm)++(b.dz s).drop (yB s (b.dz s) r.dm+1))) x=_/\dq.jc (({({b with a:=a1}:dq).ki s id with at_:=rK id b.at_,spare:=b.spare++[r.queue]}:dq).ri s ((b.dz s).take (yB s (b.dz s) r.dm)++(b.dz s).drop (yB s (b.dz s) r.dm+1))) x=_);rw[ebk];rcases h.hs with rfl|rfl<;>exact⟨rfl,rfl⟩
  ·rw[htk];show _=dq.flat (({({b with a:=a1}:dq).ki s id with at_:=rK id b.at_,spare:=b.spare++[r.queue]}:dq).ri s ((b.dz s).take (yB s (b.dz s) r.dm)++(b.dz s).drop (yB s (b.dz s) r.dm+1))) Q';rw[ebk];exact k2.symm
 ·rw[ez hz];have c2:b1.Core Q' (-1):=⟨c1.wf,c1.xk,c1.uj,c1.nd,c1.ql,λs' iP r' ov _=>by
   by_cases e:r'.queue=r.queue
   ·rw[xL,e];intro e2;rw[xL]at er;rw[er]at e2;rw[Nd,e2]at hz;exact hz rfl
   ·exact c1.ne s' iP r' ov e,c1.sp,c1.at_,c1.ids,c1.qb⟩
  have hh:({({b with a:=a1}:dq).ki s id with at_:=rK id b.at_}:dq)=b1:=qd.symm;show dq.ga {({b with a:=a1}:dq).ki s id with at_:=rK id b.at_} _;rw[hh,htk];exact⟨Q',c2,ht1 b1 λ_=>⟨rfl,rfl⟩,rfl⟩
def lB (k:Int):∀l,CE (cm bu k) (jw l)=jw (rK k l)
 |[]=>rfl
 |(a,b)::l=>by
  have ih:=lB k l;show(bif (xd .i64 .i64 && decide (k=a))then jw l else _::CE _ (jw l))=_;rw[ih,rK];by_cases h:k=a
  ·subst h;simp[xd]
  ·simp[h,jw]
def yEp:Uw.ok Tryz.prog 270:=
 D6 mixed Tryz.func270 rfl (by kernel_rfl) (by kernel_rfl) (by kernel_rfl) (by kernel_rfl) zKw rfl Z8 (λs sn sk i j w R=>by kernel_rfl)
def dup {X:Prop} {n:Int} (h:X):X/\n=n/\True/\X:=⟨h,rfl,trivial,h⟩
def dq.Core.small {b:dq} {Q:Q_ Nat} (c:b.Core Q (-1)):b.small:=by
 have hq:=c.qb;have h1:=c.ql;have h2:=c.wf.ql;have h3:=c.wf.len;rw[dq.qs,iv,iv,ia,ia]at h1;exact⟨⟨oM,oM⟩,oM,oM,oM⟩
def y9z (i:BI) (h:GV.dp i):yMj i:=by
 obtain⟨qy,hn⟩:i.ok 1:=h;obtain⟨⟨ha1,ha2⟩,qd,ni,tr⟩:=id qy;have hn:yB 1 i.b.fv i.dm<i.b.fv.length:=hn;obtain⟨r,hr⟩:=zZ (l:=i.b.fv) hn;have qn:((i.b.dz 1).getD (yB 1 (i.b.dz 1) i.dm) ⟨0,0⟩)=r:=zX hr;have hw:∀k:Int,bu.wrap ((yB 1 (i.b.dz 1) i.dm:Int)+1)=((yB 1 (i.b.dz 1) i.dm+1:Nat):Int):=λ_=>by
  have:=VE 1 i.dm (i.b.dz 1);have hl:(i.b.dz 1).length<=1000000:=by show i.b.fv.length<=_;omega
  rw[iw (by omega)];rfl
 have Mb:((yB 1 (i.b.dz 1) i.dm:Nat):Int)<((ab zC i.b.fv).length:Int):=by
  rw[ia];show((yB 1 i.b.fv i.dm:Nat):Int)<_;omega
 unfold yMj ZY Q7 zLc Yt H9 Qd1 ff dx f9 hZ qT Q0 qF xH dI;refine⟨vA _ _,Cv.dp.mk (λc1=>Cv.dp.mk (λc2=> ?_) (λc2=> ?_)) (λc1=> ?_)⟩
 ·have c2:i.b.iK=i.id:=i9 c2
  have hu:i.b.ki 1 i.id={i.b with gv:=av}:=by rw[dq.ki,fh ⟨c1,c2⟩];rfl
  refine⟨⟨{i.b with gv:=av,at_:=rK i.id i.b.at_},i.dm⟩,iA ⟨rfl,(lB _ _).symm,rfl,qy,λ_ _=>⟨⟨oM,Mb⟩,r.queue,jz hr (by simp[zC]) rfl,⟨i.b.a,r.queue⟩,rfl,rfl,trivial,λ_ _=>Cv.dp.mk (λe=>⟨by simp only[y9];omega,⟨i.b.fv.map zC,yB 1 (i.b.dz 1) i.dm,yB 1 (i.b.dz 1) i.dm+1⟩,rfl,(hw 0).symm,rfl,⟨LX _,by rw[ia];exact hn⟩,λ_ _=>⟨rfl,(),?_⟩⟩) (λe=>⟨(),?_⟩)⟩⟩⟩
  ·have e:(i.b.a.qg r.queue).count=0:=i9 e
   rw[dq.iL,qn,fh e,hu];refine(sy ⟨rfl,?_,rfl,?_,trivial⟩)
   ·show ab zC (i.b.fv.take _++i.b.fv.drop _)=_;rw[jk,Ed,FF]
   ·show iE (i.b.spare++[r.queue])=_;simp[iE]
  ·have e:¬(i.b.a.qg r.queue).count=0:=i9 e
   rw[dq.iL,qn,ez e,hu];exact(nr (iM trivial))
 ·have c2:¬i.b.iK=i.id:=i9 c2
  have hu:i.b.ki 1 i.id={i.b with gv:=i.b.gv}:=by rw[dq.ki,ez (λe=>c2 e.2)]
  refine⟨⟨{i.b with gv:=i.b.gv,at_:=rK i.id i.b.at_},i.dm⟩,iA ⟨rfl,(lB _ _).symm,rfl,qy,λ_ _=>⟨⟨oM,Mb⟩,r.queue,jz hr (by simp[zC]) rfl,⟨i.b.a,r.queue⟩,rfl,rfl,trivial,λ_ _=>Cv.dp.mk (λe=>⟨by simp only[y9];omega,⟨i.b.fv.map zC,yB 1 (i.b.dz 1) i.dm,yB 1 (i.b.dz 1) i.dm+1⟩,rfl,(hw 0).symm,rfl,⟨LX _,by rw[ia];exact hn⟩,λ_ _=>⟨rfl,(),?_⟩⟩) (λe=>⟨(),?_⟩)⟩⟩⟩
  ·have e:(i.b.a.qg r.queue).count=0:=i9 e
   rw[dq.iL,qn,fh e,hu];refine(sy ⟨rfl,?_,rfl,?_,trivial⟩)
   ·show ab zC (i.b.fv.take _++i.b.fv.drop _)=_;rw[jk,Ed,FF]
   ·show iE (i.b.spare++[r.queue])=_;simp[iE]
  ·have e:¬(i.b.a.qg r.queue).count=0:=i9 e
   rw[dq.iL,qn,ez e,hu];exact(nr (iM trivial))
 ·have hu:i.b.ki 1 i.id={i.b with gv:=i.b.gv}:=by
   rw[dq.ki,ez];rintro⟨e,_⟩;exact absurd (show i.b.gv=au from e) (by rw[c1];decide)
  refine⟨⟨{i.b with gv:=i.b.gv,at_:=rK i.id i.b.at_},i.dm⟩,iA ⟨rfl,(lB _ _).symm,rfl,qy,λ_ _=>⟨⟨oM,Mb⟩,r.queue,jz hr (by simp[zC]) rfl,⟨i.b.a,r.queue⟩,rfl,rfl,trivial,λ_ _=>Cv.dp.mk (λe=>⟨by simp only[y9];omega,⟨i.b.fv.map zC,yB 1 (i.b.dz 1) i.dm,yB 1 (i.b.dz 1) i.dm+1⟩,rfl,(hw 0).symm,rfl,⟨LX _,by rw[ia];exact hn⟩,λ_ _=>⟨rfl,(),?_⟩⟩) (λe=>⟨(),?_⟩)⟩⟩⟩
  ·have e:(i.b.a.qg r.queue).count=0:=i9 e
   rw[dq.iL,qn,fh e,hu];refine(sy ⟨rfl,?_,rfl,?_,trivial⟩)
   ·show ab zC (i.b.fv.take _++i.b.fv.drop _)=_;rw[jk,Ed,FF]
   ·show iE (i.b.spare++[r.queue])=_;simp[iE]
  ·have e:¬(i.b.a.qg r.queue).count=0:=i9 e
   rw[dq.iL,qn,ez e,hu];exact(nr (iM trivial))
def yNw:GV.ok Tryz.prog 234:=gx mixed (dw Y6 (dw sO (dw yEp fk))) 0 i6 i6 [] Tryz.func234 y9z
def y5c (i:BI) (h:GU.dp i):yPs i:=by
 obtain⟨qy,hn⟩:i.ok 2:=h;obtain⟨⟨ha1,ha2⟩,qd,ni,tr⟩:=id qy;have hn:yB 2 i.b.fc i.dm<i.b.fc.length:=hn;obtain⟨r,hr⟩:=zZ (l:=i.b.fc) hn;have qn:((i.b.dz 2).getD (yB 2 (i.b.dz 2) i.dm) ⟨0,0⟩)=r:=zX hr;have hw:∀k:Int,bu.wrap ((yB 2 (i.b.dz 2) i.dm:Int)+1)=((yB 2 (i.b.dz 2) i.dm+1:Nat):Int):=λ_=>by
  have:=VE 2 i.dm (i.b.dz 2);have hl:(i.b.dz 2).length<=1000000:=by show i.b.fc.length<=_;omega
  rw[iw (by omega)];rfl
 have Mb:((yB 2 (i.b.dz 2) i.dm:Nat):Int)<((ab zC i.b.fc).length:Int):=by
  rw[ia];show((yB 2 i.b.fc i.dm:Nat):Int)<_;omega
 unfold yPs Q7 zMw Q7 zMt Yt Qa3 H9 ff dx f8 hJ qT Q0 qE xJ dI;refine⟨vA _ _,Cv.dp.mk (λc1=>Cv.dp.mk (λc2=> ?_) (λc2=> ?_)) (λc1=> ?_)⟩
 ·have c2:i.b.iJ=i.id:=i9 c2
  have hu:i.b.ki 2 i.id={i.b with gq:=av}:=by rw[dq.ki,fh ⟨c1,c2⟩];rfl
  refine⟨⟨{i.b with gq:=av,at_:=rK i.id i.b.at_},i.dm⟩,iA ⟨rfl,(lB _ _).symm,rfl,qy,λ_ _=>⟨⟨oM,Mb⟩,r.queue,jz hr (by simp[zC]) rfl,⟨i.b.a,r.queue⟩,rfl,rfl,trivial,λ_ _=>Cv.dp.mk (λe=>⟨by simp only[y9];omega,⟨i.b.fc.map zC,yB 2 (i.b.dz 2) i.dm,yB 2 (i.b.dz 2) i.dm+1⟩,rfl,(hw 0).symm,rfl,⟨LX _,by rw[ia];exact hn⟩,λ_ _=>⟨rfl,(),?_⟩⟩) (λe=>⟨(),?_⟩)⟩⟩⟩
  ·have e:(i.b.a.qg r.queue).count=0:=i9 e
   rw[dq.iL,qn,fh e,hu];refine(nr ⟨rfl,?_,?_,trivial⟩)
   ·show ab zC (i.b.fc.take _++i.b.fc.drop _)=_;rw[jk,Ed,FF]
   ·show iE (i.b.spare++[r.queue])=_;simp[iE]
  ·have e:¬(i.b.a.qg r.queue).count=0:=i9 e
   rw[dq.iL,qn,ez e,hu];exact(nr (iM trivial))
 ·have c2:¬i.b.iJ=i.id:=i9 c2
  have hu:i.b.ki 2 i.id={i.b with gq:=i.b.gq}:=by rw[dq.ki,ez (λe=>c2 e.2)]
  refine⟨⟨{i.b with gq:=i.b.gq,at_:=rK i.id i.b.at_},i.dm⟩,iA ⟨rfl,(lB _ _).symm,rfl,qy,λ_ _=>⟨⟨oM,Mb⟩,r.queue,jz hr (by simp[zC]) rfl,⟨i.b.a,r.queue⟩,rfl,rfl,trivial,λ_ _=>Cv.dp.mk (λe=>⟨by simp only[y9];omega,⟨i.b.fc.map zC,yB 2 (i.b.dz 2) i.dm,yB 2 (i.b.dz 2) i.dm+1⟩,rfl,(hw 0).symm,rfl,⟨LX _,by rw[ia];exact hn⟩,λ_ _=>⟨rfl,(),?_⟩⟩) (λe=>⟨(),?_⟩)⟩⟩⟩
  ·have e:(i.b.a.qg r.queue).count=0:=i9 e
   rw[dq.iL,qn,fh e,hu];refine(nr ⟨rfl,?_,?_,trivial⟩)
   ·show ab zC (i.b.fc.take _++i.b.fc.drop _)=_;rw[jk,Ed,FF]
   ·show iE (i.b.spare++[r.queue])=_;simp[iE]
  ·have e:¬(i.b.a.qg r.queue).count=0:=i9 e
   rw[dq.iL,qn,ez e,hu];exact(nr (iM trivial))
 ·have hu:i.b.ki 2 i.id={i.b with gq:=i.b.gq}:=by
   rw[dq.ki,ez];rintro⟨e,_⟩;exact absurd (show i.b.gq=au from e) (by rw[c1];decide)
  refine⟨⟨{i.b with gq:=i.b.gq,at_:=rK i.id i.b.at_},i.dm⟩,iA ⟨rfl,(lB _ _).symm,rfl,qy,λ_ _=>⟨⟨oM,Mb⟩,r.queue,jz hr (by simp[zC]) rfl,⟨i.b.a,r.queue⟩,rfl,rfl,trivial,λ_ _=>Cv.dp.mk (λe=>⟨by simp only[y9];omega,⟨i.b.fc.map zC,yB 2 (i.b.dz 2) i.dm,yB 2 (i.b.dz 2) i.dm+1⟩,rfl,(hw 0).symm,rfl,⟨LX _,by rw[ia];exact hn⟩,λ_ _=>⟨rfl,(),?_⟩⟩) (λe=>⟨(),?_⟩)⟩⟩⟩
  ·have e:(i.b.a.qg r.queue).count=0:=i9 e
   rw[dq.iL,qn,fh e,hu];refine(nr ⟨rfl,?_,?_,trivial⟩)
   ·show ab zC (i.b.fc.take _++i.b.fc.drop _)=_;rw[jk,Ed,FF]
   ·show iE (i.b.spare++[r.queue])=_;simp[iE]
  ·have e:¬(i.b.a.qg r.queue).count=0:=i9 e
   rw[dq.iL,qn,ez e,hu];exact(nr (iM trivial))
def yUo:GU.ok Tryz.prog 234:=gx mixed (dw Y3 (dw sO (dw yEp fk))) 0 i6 i6 [] Tryz.func234 y5c
def yWx:Ut.ok Tryz.prog 234:=λj=>match j with
 |⟨i,av⟩=>yNw i
 |⟨i,au⟩=>yUo i
def y0p {a:dv} {k:Nat} {p t:Int} {m:Nat} (h:WE (a.fg k) m k p t) (hl:k<a.du.length):a.nu k=((a.fg k).pn,au):=by
 have:a.iy k=au:=by
  simp only[dv.iy,lr,tn,ot];exact⟨oM,oM,h.used⟩
 rw[dv.nu,fh this,ot]
def z3m {b:dq} {Q:Q_ Nat} (c:b.Core Q (-1)) {id s:Int} {r:xY} {k:Nat} (h:Told b Q id s r k):b.a.nu k=((b.a.fg k).pn,au)/\(b.a.fg k).dr<=1000000/\1<=(b.a.fg k).dr:=by
 obtain⟨h1,⟨p,t,h2⟩,h3⟩:=c.wf.toyw.mem (c.get h.hs h.hr) h.hk;exact⟨y0p h2 (by rw[c.wf.len];exact h1),h2.q2,c.wf.pos _ _ (c.get h.hs h.hr) _ h.hk⟩
def xAl (i:CR) (h:G0.dp i):yQy i:=by
 obtain⟨Q,c,ht,hL⟩:i.b.ga i.L:=h;unfold yQy Q9 dx zLp Q9 H9 ff dx zFf QQ lA dI;rcases c.told i.id with⟨hg,hn⟩|⟨s,r,k,hT⟩
 ·refine⟨vA _ _,av,0,0,0,.inr ⟨?_,rfl,rfl⟩,Cv.dp.mk (λ_=> ?_) (λe=>absurd e Z8)⟩
  ·rw[NN,hg];rfl
  ·rw[<- hL]at hn;rw[y7f hn,hn];exact⟨(),gn⟩
 ·refine⟨vA _ _,au,s,r.dm,k,.inl ⟨?_,rfl⟩,Cv.dp.mk (λe=>absurd e Z8) (λ_=>dup ⟨⟨i.b.a,k⟩,rfl,rfl,by dsimp only;rw[c.wf.len];decide,λ_ _=>⟨(),?_⟩⟩)⟩
  ·rw[NN,hT.e];rfl
  ·have h1:=hT.get;have h2:=hT.has;rw[<- hL]at h1 h2;rw[h1,h2,(z3m c hT).1];exact⟨hT.ident,gn⟩
def z4v:G0.ok Tryz.prog 169:=gx mixed (dw yEu fk) 0 i6 i6 [0] Tryz.func169 xAl
def dq.Core.Ey {b:dq} {Q:Q_ Nat} (c:b.Core Q (-1)):b.a.Ey:=c.wf.toyw.ok
def xCm (i:CR) (h:K6.dp i):y1q i:=by
 have hR:i.b.ga i.L:=h;obtain⟨Q,c,ht,hL⟩:=id hR;unfold y1q Q7 ff YZ Q7 ff Zy Q0 Q7 QS ff uK VZ QS lA dI;rcases c.told i.id with⟨hg,hn⟩|⟨s,r,k,hT⟩
 ·refine⟨vA _ _,av,0,0,0,.inr ⟨?_,rfl,rfl⟩,Cv.dp.mk (λ_=> ?_) (λe=>absurd e (by simp))⟩
  ·rw[NN,hg];rfl
  ·rw[<- hL]at hn;rw[qK,fh hn];exact⟨i.b,oL (iM hR)⟩
 have hg:=hT.get;have hh:=hT.has;rw[<- hL]at hg hh;obtain⟨Kd,wm,ue⟩:=z3m c hT;have OL:(c8 i.L i.id).dr=(i.b.a.fg k).dr:=by rw[hg];rfl
 refine⟨vA _ _,au,s,r.dm,k,.inl ⟨?_,rfl⟩,Cv.dp.mk (λe=>absurd e (by simp)) (λ_=>⟨⟨i.b.a,k,i.dr⟩,rfl,rfl,rfl,c.Ey,λ_ _=> ?_⟩)⟩
 ·rw[NN,hT.e];rfl
 dsimp only;have hu:i.b.a.iy k=au:=by
  cases hu:i.b.a.iy k with
  |true=>rfl
  |false=>rw[dv.nu,ez (by rw[hu];decide)]at Kd;exact absurd (congrArg Prod.snd Kd) (by simp)
 by_cases hb:i.dr<1\/(i.b.a.fg k).dr<i.dr
 ·have ht:i.b.a.gw k i.dr=(i.b.a,24):=by rw[dv.gw,ez (by rw[hu];decide),ot,fh hb]
  rw[ht];refine Cv.dp.mk (λ_=> ?_) (λe=>absurd e (by simp));rw[qK,ez (by rw[hh];decide),fh (by rw[OL];exact hb)];exact⟨i.b,oL (iM hR)⟩
 have BC:qK i.L i.id i.dr=(wX i.L i.id i.dr,0):=by rw[qK,ez (by rw[hh];decide),ez (by rw[OL];exact hb)]
 by_cases hf:i.dr=(i.b.a.fg k).dr
 ·obtain⟨g1,g2,g3,g4,g5,g6⟩:=c.gone (by rw[<- hL];exact ht) hT (q:=i.dr) ⟨oM,hf⟩;rw[<- hL]at g2;have qy:=c.small;rw[g1];refine Cv.dp.mk (λe=>absurd e (by simp)) (λ_=>dup ⟨⟨(i.b.a.gw k i.dr).1,k⟩,rfl,rfl,by dsimp only;rw[g3];decide,λ_ _=> ?_⟩);dsimp only;rw[g5];refine Cv.dp.mk (λ_=> ?_) (λe=>absurd e (by simp));rcases hT.hs with rfl|rfl
  ·refine⟨⟨⟨{i.b with a:=(i.b.a.gw k i.dr).1},i.id,r.dm,k⟩,av⟩,iA (nf ⟨rfl,⟨⟨⟨by dsimp only;rw[g3];decide,by dsimp only;rw[g4];exact qy.1.2⟩,qy.2⟩,g6⟩,λ_ _=> ?_⟩)⟩;refine⟨({i.b with a:=(i.b.a.gw k i.dr).1}:dq).iL 1 i.id r.dm,by rw[BC],nr (iM (by rw[BC];exact g2))⟩
  ·refine⟨⟨⟨{i.b with a:=(i.b.a.gw k i.dr).1},i.id,r.dm,k⟩,au⟩,iA (nf ⟨rfl,⟨⟨⟨by dsimp only;rw[g3];decide,by dsimp only;rw[g4];exact qy.1.2⟩,qy.2⟩,g6⟩,λ_ _=> ?_⟩)⟩;refine⟨({i.b with a:=(i.b.a.gw k i.dr).1}:dq).iL 2 i.id r.dm,by rw[BC],nr (iM (by rw[BC];exact g2))⟩
 ·obtain⟨g1,g2,g3,g4,g5⟩:=c.less (by rw[<- hL];exact ht) hT (q:=i.dr) oM;rw[<- hL]at g2;rw[g1];refine Cv.dp.mk (λe=>absurd e (by simp)) (λ_=>dup ⟨⟨(i.b.a.gw k i.dr).1,k⟩,rfl,rfl,by dsimp only;rw[g3];decide,λ_ _=> ?_⟩);dsimp only;rw[g4];refine Cv.dp.mk (λe=>absurd e (by simp)) (λ_=>Cv.dp.mk (λe=> ?_) (λ_=> ?_))
  ·have e:¬((i.b.a.gw k i.dr).1.fg k).pn.id=i.id:=i9 e
   exact absurd g5 e
  ·exact⟨{i.b with a:=(i.b.a.gw k i.dr).1},by rw[BC],nr (iM (by rw[BC];exact g2))⟩
def yXm:K6.ok Tryz.prog 171:=gx mixed (dw ySb (dw yEu (dw yWx fk))) 0 i6 i6 [0] Tryz.func171 xCm
def z1j (A B:List zJ) (s p:Int):vl (A++B) s p=vl A s p++vl B s p:=Cf _ _
def UF {A:List zJ} {s p:Int} (h:∀o∈A,o.side=s->o.dm≠p):vl A s p=[]:=by
 rw[vl,HG];intro o ho;by_cases e:o.side=s
 ·simp[h o ho e]
 ·simp[e]
def yWc {A:List zJ} {s p:Int} (h:∀o∈A,o.side=s/\o.dm=p):vl A s p=A:=by
 rw[vl,IA];intro o ho;simp[h o ho]
def Ph {s x y:Int} (h:jl s x y=au):x≠y:=by
 rintro rfl;rw[NO]at h;cases h
def dq.Core.Lf {b:dq} {Q:Q_ Nat} (c:b.Core Q (-1)) {s p:Int} (hs:s=1\/s=2) (h:jR s (b.dz s) p=av):vl (b.flat Q) s p=[]:=by
 have tr:=zGg (p:=p) (c.xk s hs);rw[ez (by rw[h];decide)]at tr;refine UF λo ho e=> ?_
 obtain⟨_,r,hr,_,hp⟩:=sR ho;rw[e]at hr;rw[hp];rw[<- Bb (yB s (b.dz s) p) (b.dz s)]at hr;rcases oK.1 hr with hr|hr
 ·exact Ph (tr.1 r hr)
 ·exact(Ph (tr.2 r hr)).symm
def dq.Core.G5 {b:dq} {Q:Q_ Nat} (c:b.Core Q (-1)) {s p:Int} (hs:s=1\/s=2) (h:jR s (b.dz s) p=au):∃r,(b.dz s)[yB s (b.dz s) p]? =ba r/\r.dm=p/\r∈b.dz s/\vl (b.flat Q) s p=b.ie Q s r:=by
 have tr:=zGg (p:=p) (c.xk s hs);rw[fh h]at tr;obtain⟨h1,r,hr,hp,h2⟩:=tr;have gu:=(jm.1 hr).1;refine⟨r,hr,hp,lh hr,?_⟩;have o6:b.dz s=(b.dz s).take (yB s (b.dz s) p)++r::(b.dz s).drop (yB s (b.dz s) p+1):=by
  conv=>lhs;rw[<- Bb (yB s (b.dz s) p) (b.dz s)]
  rw[CH gu,(jm.1 hr).2]
 have o5:vl (b.iu Q s) s p=b.ie Q s r:=by
  rw[dq.iu,o6,yy,vi,z1j,z1j,UF,yWc,UF,oJ,we]
  ·intro o ho _;obtain⟨r',ov,ho⟩:=A8.1 ho;rw[(kA ho).2];exact(Ph (h2 r' ov)).symm
  ·intro o ho;rw[<- hp];exact kA ho
  ·intro o ho _;obtain⟨r',ov,ho⟩:=A8.1 ho;rw[(kA ho).2];exact Ph (h1 r' ov)
 have GK:∀s',s'≠s->vl (b.iu Q s') s p=[]:=λs' jy=>UF λo ho e=>absurd ((pA ho).1.symm.trans e) jy
 rw[dq.flat,z1j];rcases hs with rfl|rfl
 ·rw[o5,GK 2 (by decide),oJ]
 ·rw[o5,GK 1 (by decide),we]
def dq.Core.pz {b:dq} {Q:Q_ Nat} (c:b.Core Q (-1)) {s:Int} (hs:s=1\/s=2) {r:xY} (hr:r∈b.dz s):b.a.pz r.queue (xL Q r):=by
 have hg:=c.get hs hr;have OJ:=c.uj _ (g8 hs hr);refine⟨by have:=c.wf.toyw.short hg;omega,?_⟩;rw[fh ⟨OJ.1,by rw[c.wf.ql];exact OJ.2⟩,zX (c.wf.q _ _ hg)];exact zXk (c.wf.sg _ _ hg)
def xHe (i:IY) (h:TL.dp i):xGc i:=by
 obtain⟨Q,c,ht,hL⟩:i.b.ga i.L:=h;unfold xGc ff dx Qe Qf f9 hZ qT Q0 qF kX dI;refine⟨1,rfl,trivial,λ_ _=>Cv.dp.mk (λe=>absurd e Z8) λ_=>⟨⟨i.b,i.dm⟩,oL (iM ⟨rfl,c.small,λ_ _=>Cv.dp.mk (λe=> ?_) (λe=> ?_)⟩)⟩⟩
 ·have e:jR 1 (i.b.dz 1) i.dm=av:=i9 e
  have:=c.Lf (.inl rfl) e;rw[<- hL]at this;refine⟨(),iA ⟨rfl,?_,trivial⟩⟩;show ab wV (vl i.L 1 i.dm)=[];rw[this];rfl
 ·have e:jR 1 (i.b.dz 1) i.dm=au:=i9 e
  obtain⟨r,hr,hp,hm,ha⟩:=c.G5 (.inl rfl) e;rw[<- hL]at ha;have gu:=(jm.1 hr).1;refine⟨⟨oM,by rw[ia];exact Int.ofNat_lt.2 gu⟩,r.dm,r.queue,jz hr (by simp[zC]) rfl,⟨i.b,1,r,xL Q r⟩,iA (iM ⟨rfl,c.pz (.inl rfl) hm,λ_ _=>⟨(),rfl,?_,trivial⟩⟩)⟩;show ab wV (vl i.L 1 i.dm)=_;rw[ha,Fq.oy,dq.ie,dv.fy];simp only[wb];rfl
def y8i:TL.ok Tryz.prog 235:=gx mixed (dw JK (dw Y6 (dw zYx fk))) 0 i6 i6 [0] Tryz.func235 xHe
def xJk (i:IY) (h:TK.dp i):xEm i:=by
 obtain⟨Q,c,ht,hL⟩:i.b.ga i.L:=h;unfold xEm ff dx Qe Qf f8 hJ qT Q0 qE kX dI;refine⟨2,rfl,trivial,λ_ _=>Cv.dp.mk (λe=>absurd e Z8) λ_=>⟨⟨i.b,i.dm⟩,oL (iM ⟨rfl,c.small,λ_ _=>Cv.dp.mk (λe=> ?_) (λe=> ?_)⟩)⟩⟩
 ·have e:jR 2 (i.b.dz 2) i.dm=av:=i9 e
  have:=c.Lf (.inr rfl) e;rw[<- hL]at this;refine⟨(),iA ⟨rfl,?_,trivial⟩⟩;show ab wV (vl i.L 2 i.dm)=[];rw[this];rfl
 ·have e:jR 2 (i.b.dz 2) i.dm=au:=i9 e
  obtain⟨r,hr,hp,hm,ha⟩:=c.G5 (.inr rfl) e;rw[<- hL]at ha;have gu:=(jm.1 hr).1;refine⟨⟨oM,by rw[ia];exact Int.ofNat_lt.2 gu⟩,r.dm,r.queue,jz hr (by simp[zC]) rfl,⟨i.b,2,r,xL Q r⟩,iA (iM ⟨rfl,c.pz (.inr rfl) hm,λ_ _=>⟨(),rfl,?_,trivial⟩⟩)⟩;show ab wV (vl i.L 2 i.dm)=_;rw[ha,Fq.oy,dq.ie,dv.fy];simp only[wb];rfl
def xBj:TK.ok Tryz.prog 235:=gx mixed (dw JK (dw Y3 (dw zYx fk))) 0 i6 i6 [0] Tryz.func235 xJk
def xFv:atC.ok Tryz.prog 235:=λj=>match j with
 |⟨b,L,av,p⟩=>y8i ⟨b,L,av,p⟩
 |⟨b,L,au,p⟩=>xBj ⟨b,L,au,p⟩
def JL (p:Int) (l:List zJ):Lv:=⟨p,(l.map (·.dr)).sum,l.length⟩
def ZI:∀{l:List zJ} {v:Lv} {vs:List Lv},xw l=v::vs->∃o r,l=o::r/\o.dm=v.dm
 |[],v,vs,h=>by cases h
 |o::r,v,vs,h=>by
  refine⟨o,r,rfl,?_⟩;rw[xw]at h;split at h
  ·cases h;rfl
  ·split at h
   ·rename_i e;cases h;exact e.symm
   ·cases h;rfl
def yFu {p:Int}:∀{l:List zJ} {m:List zJ},l≠[]->(∀o∈l,o.dm=p)->(∀o r,m=o::r->o.dm≠p)->xw (l++m)=JL p l::xw m
 |[],m,h,_,_=>absurd rfl h
 |[o],m,_,h,hm=>by
  have e:=h o iX;rw[RC,xw];split
  ·rename_i g;simp[JL,e,g]
  ·rename_i v vs g;obtain⟨o',r,e1,e2⟩:=ZI g;have:=hm o' r e1;rw[ez (by omega)];simp[JL,e,g]
 |o::o'::l,m,_,h,hm=>by
  have e:=h o iX;have ih:=yFu (l:=o'::l) (m:=m) (by simp) (λx hx=>h x (ji _ hx)) hm;rw[uh,xw,ih];dsimp only;rw[fh (show(JL p (o'::l)).dm=o.dm from e.symm)];simp only[JL,jf,qc,iF];rfl
def z8i {f:xY->List zJ}:∀{R:List xY},(∀r∈R,f r≠[]/\∀o∈f r,o.dm=r.dm)->R.Pairwise (λr r'=>r.dm≠r'.dm)->xw (R.flatMap f)=R.map λr=>JL r.dm (f r)
 |[],_,_=>rfl
 |r::R,h,hp=>by
  rw[yx]at hp;have ih:=z8i (R:=R) (λx hx=>h x (ji _ hx)) hp.2;rw[vi,yFu (h r iX).1 (h r iX).2,ih,jf];intro o l e;cases R with
  |nil=>cases e
  |cons r' R'=>
   rw[vi]at e;obtain⟨h1,h2⟩:=h r' (ji _ iX);cases hf:f r' with
   |nil=>exact absurd hf h1
   |cons x y=>
    rw[hf,uh]at e;cases e;rw[h2 o (by rw[hf];exact iX)];exact(hp.1 r' iX).symm
def zYf {b:dq} {Q:Q_ Nat} {s:Int} (hs:s=1\/s=2):(b.flat Q).filter (λo=>decide (o.side=s))=b.iu Q s:=by
 have h1:∀s',(b.iu Q s').filter (λo=>decide (o.side=s))=if s'=s then b.iu Q s' else[]:=by
  intro s';split
  ·rename_i e;rw[IA];intro o ho;rw[(pA ho).1,e];simp
  ·rename_i e;rw[HG];intro o ho;rw[(pA ho).1];simp[e]
 rw[dq.flat,Cf,h1,h1];rcases hs with rfl|rfl
 ·simp
 ·simp
def dq.Core.neL {b:dq} {Q:Q_ Nat} (c:b.Core Q (-1)) {s:Int} (hs:s=1\/s=2) {r:xY} (hr:r∈b.dz s):xL Q r≠[]:=c.ne s hs r hr λe=>by have:=c.uj _ (g8 hs hr);omega
def dq.Core.TO {b:dq} {Q:Q_ Nat} (c:b.Core Q (-1)) {s:Int} (hs:s=1\/s=2) {r:xY} (hr:r∈b.dz s):b.told r=JL r.dm (b.ie Q s r):=by
 have hg:=c.get hs hr;have OJ:=c.uj _ (g8 hs hr);have hq:=c.wf.q _ _ hg;have IJ:=c.wf.ql;rw[dq.told,WX OJ.1 hq,JL,dq.ie,wb,ia];rfl
def dq.Core.lad {b:dq} {Q:Q_ Nat} (c:b.Core Q (-1)) {s:Int} (hs:s=1\/s=2):uE (b.flat Q) s=(b.dz s).map b.told:=by
 rw[uE,zYf hs,dq.iu,z8i]
 ·exact uc λr hr=>(c.TO hs hr).symm
 ·intro r hr;refine⟨λe=>c.neL hs hr (List.map_eq_nil_iff.1 e),λo ho=>(kA ho).2⟩
 ·exact(c.xk s hs).imp λh=>Ph h
def dq.Core.iG {b:dq} {Q:Q_ Nat} (c:b.Core Q (-1)) {s:Int} (hs:s=1\/s=2):b.ix (b.dz s)=Sx.iG (b.flat Q) s:=by
 rw[Sx.iG,c.lad hs];cases b.dz s<;>rfl
def dq.Core.Fl {b:dq} {Q:Q_ Nat} (c:b.Core Q (-1)):b.ob:=by
 intro q hq;obtain⟨n,hn⟩:=Bv.1 hq;have gu:=(jm.1 hn).1;rw[c.wf.ql]at gu;obtain⟨l,hl⟩:=zZ gu;have:=c.wf.q n l hl;rw[hn]at this;cases this;have:=c.wf.toyw.short hl;constructor<;>dsimp only<;>omega
def qC (L:List zJ):j':=(kf.F4 (iG L 1)).AI (iG L 2)
def dq.ga.top {b:dq} {L:List zJ} (h:b.ga L):b.top=qC L:=by
 obtain⟨Q,c,ht,rfl⟩:=h;rw[dq.top,qC,<- c.iG (.inl rfl),<- c.iG (.inr rfl)];rfl
def dq.ga.Fl {b:dq} {L:List zJ} (h:b.ga L):b.ob:=by
 obtain⟨Q,c,ht,rfl⟩:=h;exact c.Fl
structure Ln (o:zJ):Prop where
 s:o.side=1\/o.side=2
 q:1<=o.dr/\o.dr<=1000000
def dq.ga.oy {b:dq} {L:List zJ} (h:b.ga L):(∀o∈L,Ln o)/\(L.map (·.id)).Nodup/\L.length<=250:=by
 obtain⟨Q,c,ht,rfl⟩:=h;refine⟨λo ho=> ?_,c.ids,?_⟩
 ·obtain⟨hs,r,hr,ho,hp⟩:=sR ho;refine⟨hs,?_⟩;obtain⟨k,hk,e⟩:=np.1 ho;obtain⟨_,⟨_,_,h2⟩,_⟩:=c.wf.toyw.mem (c.get hs hr) hk;have eq:o.dr=(b.a.fg k).dr:=by rw[<- e];rfl
  rw[eq];exact⟨c.wf.pos _ _ (c.get hs hr) _ hk,h2.q2⟩
 ·have qz:(((b.dz 1).flatMap (xL Q)++(b.dz 2).flatMap (xL Q))).Nodup:=by
   have hm:((b.flat Q).map (·.id))=((b.dz 1).flatMap (xL Q)++(b.dz 2).flatMap (xL Q)).map λk=>(b.a.fg k).id:=by
    rw[dq.flat,jk,jk,dq.iu,dq.iu,JG,JG,JG,JG];congr 1
    ·exact xM λr _=>by rw[dq.ie,wb];rfl
    ·exact xM λr _=>by rw[dq.ie,wb];rfl
   have:=c.ids;rw[hm]at this;exact List.Pairwise.of_map _ (λa b Dx e=>Dx (by rw[e])) this
  have hl:(b.flat Q).length=((b.dz 1).flatMap (xL Q)++(b.dz 2).flatMap (xL Q)).length:=by
   rw[dq.flat,iv,iv,dq.iu,dq.iu,On,On,On,On];congr 1
   ·congr 1;exact uc λr _=>by rw[dq.ie,ia]
   ·congr 1;exact uc λr _=>by rw[dq.ie,ia]
  rw[hl];refine YW 250 qz λk hk=> ?_
  rcases oK.1 hk with hk|hk
  ·obtain⟨r,hr,hk⟩:=A8.1 hk;exact(c.wf.toyw.mem (c.get (.inl rfl) hr) hk).1
  ·obtain⟨r,hr,hk⟩:=A8.1 hk;exact(c.wf.toyw.mem (c.get (.inr rfl) hr) hk).1
def dq.ga.fit {b:dq} {L:List zJ} (h:b.ga L):b.fit:=by
 obtain⟨Q,c,ht,rfl⟩:=h;have hs:=c.small;have h1:=c.ql;have h2:=c.wf.ql;have Sa:=c.qb;rw[dq.qs,iv,iv,ia,ia]at h1;refine⟨⟨hs.1.1,λhf=> ?_,λq hq=> ?_⟩,oM,oM,oM,oM⟩
 ·obtain⟨k,_,hk,Ay,HT,_⟩:=c.wf.toyw.unused hf;exact⟨_,lh Ay,HT⟩
 ·obtain⟨n,hn⟩:=Bv.1 hq;have gu:=(jm.1 hn).1;rw[c.wf.ql]at gu;obtain⟨l,hl⟩:=zZ gu;have:=c.wf.q n l hl;rw[hn]at this;cases this;dsimp only;rcases vR l with e|⟨y,j,e,e2⟩
  ·exact .inl ((tD l).2 e)
  ·rw[e2];have:=(c.wf.toyw.mem hl (k:=j) (by rw[e];simp)).1;rw[c.wf.len];exact .inr ⟨oM,oM⟩
def sm:Nat->Q_ zJ->List (Int×Int)
 |_,[]=>[]
 |k,L::B=>L.map (λo=>(o.id,(k:Int)))++sm (k+1) B
def AW:∀{B:Q_ zJ} {n:Nat} {x:Int×Int},x∈sm n B↔∃(k:Nat) (L:List zJ),B[k]? =ba L/\x.1∈L.map (·.id)/\x.2=((n+k:Nat):Int)
 |[],n,x=>by simp[sm]
 |L::B,n,x=>by
  rw[sm,oK,AW (B:=B)];constructor
  ·rintro(h|⟨k,L',h1,h2,h3⟩)
   ·obtain⟨o,ho,rfl⟩:=np.1 h;exact⟨0,L,rfl,si (f:=(·.id)) ho,rfl⟩
   ·exact⟨k+1,L',h1,h2,by rw[h3];omega⟩
  ·rintro⟨k,L',h1,h2,h3⟩;cases k with
   |zero=>
    cases h1;obtain⟨o,ho,e⟩:=np.1 h2;exact .inl (np.2 ⟨o,ho,Prod.ext e h3.symm⟩)
   |succ k=>exact .inr ⟨k,L',h1,h2,by rw[h3];omega⟩
def U0:∀{B:Q_ zJ} (n k:Nat),k<B.length->∃rest,∀X:List zJ,(sm n (B.set k X)).Perm (X.map (λo=>(o.id,((n+k:Nat):Int)))++rest)
 |[],n,k,h=>absurd h (by simp)
 |L::B,n,0,h=>⟨sm (n+1) B,λX=> .refl _⟩
 |L::B,n,k+1,h=>by
  obtain⟨rest,hr⟩:=U0 (B:=B) (n+1) k (i9 h);refine⟨L.map (λo=>(o.id,(n:Int)))++rest,λX=> ?_⟩;rw[Oj,sm];refine((hr X).append_left _).trans ?_;rw[<- jd,<- jd,show n+1+k=n+(k+1)by omega];exact Bw.append_right _
structure gy.ga (s:gy) (p:fj) (B:Q_ zJ):Prop where
 ep:s.p=p
 bl:s.eg.length=B.length
 bk:∀(k:Nat) (b:dq) (L:List zJ),s.eg[k]? =ba b->B[k]? =ba L->b.ga L
 wh:s.wh.Perm (sm 0 B)
 ids:((sm 0 B).map (·.1)).Nodup
def nT (B:Q_ zJ) (id:Int):Option Nat:=B.findIdx? λL=>vQ L id
def u6 {B:Q_ zJ} {id:Int} {k:Nat} (h:nT B id=ba k):∃L,B[k]? =ba L/\vQ L id=au:=by
 rw[nT,L4]at h;obtain⟨h1,h2,_⟩:=h;exact⟨_,vd h1,h2⟩
def z9w {B:Q_ zJ} {id:Int} (h:nT B id=bc):∀L∈B,vQ L id=av:=by
 rw[nT,Ou]at h;exact h
def z1f:∀{l:List (Int×Int)},(l.map (·.1)).Nodup->∀{k x:Int},(k,x)∈l->CD l k=ba x
 |[],_,k,x,hx=>by cases hx
 |p::l,h,k,x,hx=>by
  rw[jf,ym]at h;rw[CD,LV];rcases jx.1 hx with ex|hx
  ·subst ex;simp
  ·have:p.1≠k:=by rintro e;exact h.1 (e▸si (f:=(·.1)) hx)
   rw[jv this];exact z1f h.2 hx
def yIv {l:List (Int×Int)} {k:Int} (h:k∉l.map (·.1)):CD l k=bc:=by
 rw[CD,Option.map_eq_none_iff,af];intro x hx e;have e:x.1=k:=i9 e
 exact h (e▸si (f:=(·.1)) hx)
def gy.ga.keys {s:gy} {p:fj} {B:Q_ zJ} (h:s.ga p B):(s.wh.map (·.1)).Nodup:=(h.wh.map (·.1)).nodup_iff.2 h.ids
def gy.ga.at_ {s:gy} {p:fj} {B:Q_ zJ} (h:s.ga p B) (id:Int):CD s.wh id=(nT B id).map (λk:Nat=>(k:Int)):=by
 cases hi:nT B id with
 |none=>
  refine yIv λhm=> ?_
  rw[(h.wh.map (·.1)).mem_iff]at hm
  obtain⟨x,hx,rfl⟩:=np.1 hm;obtain⟨k,L,h1,h2,_⟩:=AW.1 hx;have:=z9w hi L (lh h1);rw[kr.2 h2]at this;cases this
 |some k=>
  obtain⟨L,h1,h2⟩:=u6 hi;refine z1f h.keys (h.wh.mem_iff.2 (AW.2 ⟨k,L,h1,kr.1 h2,by simp⟩))
def iO (B:Q_ zJ) (id q:Int):Q_ zJ×Int:=match nT B id with
 |none=>(B,26)
 |some k=>(B.set k (qK (B.getD k []) id q).1,(qK (B.getD k []) id q).2)
def Zv {L:List zJ} (h:(L.map (·.id)).Nodup) (id q:Int):((qK L id q).1.map (·.id)=L.map (·.id)/\vQ (qK L id q).1 id=vQ L id)\/((qK L id q).1=L.filter (λo=> !decide (o.id=id))/\vQ (qK L id q).1 id=av):=by
 rw[qK];by_cases h1:vQ L id=av
 ·rw[fh h1];exact .inl ⟨rfl,rfl⟩
 have h1:vQ L id=au:=i9 h1
 rw[ez (by rw[h1];decide)];by_cases h2:q<1\/(c8 L id).dr<q
 ·rw[fh h2];exact .inl ⟨rfl,rfl⟩
 rw[ez h2];dsimp only;by_cases h3:(c8 L id).dr=q
 ·refine .inr ?_;have e:wX L id q=L.filter λo=> !decide (o.id=id):=by rw[<- h3];exact zWd h h1
  refine⟨e,?_⟩;rw[e,vQ,L0];intro o ho;rw[ug]at ho;simpa using ho.2
 ·refine .inl ?_;have hm:(wX L id q).map (·.id)=L.map (·.id):=by
   have:wX L id q=L.map λo=>if o.id=id then{o with dr:=o.dr-q}else o:=by
    rw[wX,<- List.filterMap_eq_map];refine mZ λo ho=> ?_
    simp only[co];by_cases e:o.id=id
    ·have hg:=lM h ho;rw[e]at hg;rw[fh e,fh e,ez (λe2=>h3 (by rw[hg];exact e2))]
    ·rw[ez e,ez e]
   rw[this,wb];refine uc λo _=> ?_
   simp only[co];split<;>rfl
  refine⟨hm,?_⟩;rw[CF,kr,kr,hm]
def yGc:∀{l:List (Int×Int)} {k:Int},(l.map (·.1)).Nodup->LD k l=l.filter λx=> !decide (x.1=k)
 |[],k,_=>rfl
 |(a,b)::l,k,h=>by
  rw[jf,ym]at h;rw[LD];by_cases e:k=a
  ·subst e;rw[fh rfl,RE (by simp)];symm;rw[IA];intro x hx;have:x.1≠k:=λe=>h.1 (e▸si (f:=(·.1)) hx)
   simp[this]
  ·rw[ez e,RF (by simp[Ne.symm e]),yGc h.2]
def z4q:∀{l:List (Int×Int)} {k x:Int},k∉l.map (·.1)->JN k x l=l++[(k,x)]
 |[],k,x,_=>rfl
 |p::l,k,x,h=>by
  rw[jf,jx,not_or]at h;rw[JN,ez h.1,z4q h.2];rfl
def jL {α:Type} {l:List α} {k:Nat} {x:α} (h:l[k]? =ba x):l.set k x=l:=by
 apply Dn;intro i;rw[Ce];split
 ·rename_i e;subst e;rw[fh (jm.1 h).1,h]
 ·rfl
def gy.ga.set {s:gy} {p:fj} {B:Q_ zJ} (h:s.ga p B) {k:Nat} {L':List zJ} {b':dq} (hb:b'.ga L') (hk:k<B.length) {wh':List (Int×Int)} (hw:wh'.Perm (sm 0 (B.set k L'))) (hi:((sm 0 (B.set k L')).map (·.1)).Nodup):({s with eg:=s.eg.set k b',wh:=wh'}:gy).ga p (B.set k L'):=by
 refine⟨h.ep,by simpa using h.bl,λj b L h1 h2=> ?_,hw,hi⟩;by_cases e:k=j
 ·subst e;have h1:(s.eg.set k b')[k]? =ba b:=h1;rw[cQ (by rw[h.bl];exact hk)]at h1;rw[cQ hk]at h2;cases h1;cases h2;exact hb
 ·have h1:(s.eg.set k b')[j]? =ba b:=h1;rw[u7 e]at h1 h2;exact h.bk j b L h1 h2
def gy.ga.take {s:gy} {p:fj} {B:Q_ zJ} (h:s.ga p B) {id q:Int} {k:Nat} (hi:nT B id=ba k) {L:List zJ} (hL:B[k]? =ba L) (hn:(L.map (·.id)).Nodup) {b':dq} (hb:b'.ga (qK L id q).1):
 ({s with eg:=s.eg.set k b',wh:=if vQ (qK L id q).1 id=au then s.wh else LD id s.wh}:gy).ga p (iO B id q).1:=by
 have hk:=(jm.1 hL).1;have ht:(iO B id q).1=B.set k (qK L id q).1:=by simp only[iO,hi,zX hL]
 obtain⟨L2,e1,hh⟩:=u6 hi;rw[hL]at e1;cases e1;obtain⟨rest,hr⟩:=U0 (B:=B) 0 k hk;have Ml:=hr L;rw[jL hL]at Ml;rw[ht];rcases Zv hn id q with⟨e1,e2⟩|⟨e1,e2⟩
 ·have hm:∀X Y:List zJ,X.map (·.id)=Y.map (·.id)->X.map (λo=>(o.id,((0+k:Nat):Int)))=Y.map (λo=>(o.id,((0+k:Nat):Int))):=by
   intro X Y e;have:=congrArg (ab λi:Int=>(i,((0+k:Nat):Int))) e;rw[wb,wb]at this;exact this
  have hp:(sm 0 (B.set k (qK L id q).1)).Perm (sm 0 B):=by
   refine(hr _).trans ?_;rw[hm _ _ e1];exact Ml.symm
  rw[e2,hh,fh rfl];exact h.set hb hk (h.wh.trans hp.symm) ((hp.map (·.1)).nodup_iff.2 h.ids)
 ·rw[e2,ez (by decide)];have BW:∀x∈rest,x.1≠id:=by
   intro x hx e;have qz:=(Ml.map (·.1)).nodup_iff.1 h.ids
   rw[jk,wb]at qz;have h1:id∈L.map ((·.1)∘λo:zJ=>(o.id,((0+k:Nat):Int))):=kr.1 hh
   exact(Au.1 qz).2.2 id h1 x.1 (si (f:=(·.1)) hx) e.symm
  have hp:(sm 0 (B.set k (qK L id q).1)).Perm ((sm 0 B).filter λx=> !decide (x.1=id)):=by
   refine(hr _).trans (.trans ?_ (Ml.filter _).symm);rw[e1,Cf,aj];have:rest.filter (λx=> !decide (x.1=id))=rest:=by
    rw[IA];intro x hx;simp[BW x hx]
   rw[this];exact .refl _
  refine h.set hb hk ?_ ((hp.map (·.1)).nodup_iff.2 (h.ids.sublist (List.Sublist.map _ Ry)))
  rw[yGc h.keys];exact(h.wh.filter _).trans hp.symm
def Io (p:fj) (B:Q_ zJ) (inst id:Int) (s dm q:Int):Q_ zJ×Int:=
 if inst<0\/B.length<=inst then(B,20)else if(nT B id).isSome=au then(B,25)else if 250<=(sm 0 B).length then(B,13)else if p.dm inst dm≠0 then(B,p.dm inst dm)
 else(B.set inst.toNat (CB (B.getD inst.toNat []) s id dm q).1,(CB (B.getD inst.toNat []) s id dm q).2)
def z3u (L:List zJ) (s id p q:Int):((Ie L s id p q).map (·.id)).Perm (id::L.map (·.id)):=by
 have:∀X:List zJ,((X.takeWhile (before s p)++⟨id,s,p,q,fS L s p⟩::X.dropWhile (before s p)).map (·.id)).Perm (id::X.map (·.id)):=by
  intro X
  conv=>rhs;rw[<- xQq (p:=before s p) (l:=X)]
  rw[jk,jf,jk];exact mo
 rw[Ie];split
 ·refine(this _).trans ?_;rw[yDe]
 ·exact this _
def gy.ga.add {s:gy} {p:fj} {B:Q_ zJ} (h:s.ga p B) (inst id:Int) (sd:Bool) (dm q:Int):
 (gy.iC ⟨s,inst,id,sd,dm,q⟩).1.ga p (Io p B inst id (zF sd) dm q).1/\(gy.iC ⟨s,inst,id,sd,dm,q⟩).2=(Io p B inst id (zF sd) dm q).2:=by
 have Fa:zF sd=1\/zF sd=2:=by cases sd;exact .inl rfl;exact .inr rfl
 rw[gy.iC,Io];dsimp only;rw[h.bl,h.at_,h.wh.length_eq,show s.p.dm inst dm=p.dm inst dm by rw[h.ep],Option.isSome_map];by_cases c1:inst<0\/(B.length:Int)<=inst
 ·rw[fh c1,fh c1];exact⟨h,rfl⟩
 rw[ez c1,ez c1];by_cases c2:(nT B id).isSome=au
 ·rw[fh c2,fh c2];exact⟨h,rfl⟩
 rw[ez c2,ez c2];by_cases c3:250<=(sm 0 B).length
 ·rw[fh c3,fh c3];exact⟨h,rfl⟩
 rw[ez c3,ez c3];by_cases c4:p.dm inst dm≠0
 ·rw[fh c4,fh c4];exact⟨h,rfl⟩
 rw[ez c4,ez c4];obtain⟨k,hk⟩:∃k:Nat,inst=k:=⟨inst.toNat,oM⟩
 subst hk;rw[ot];have o7:k<B.length:=by omega
 obtain⟨b,hb⟩:=zZ (l:=s.eg) (i:=k) (by rw[h.bl];exact o7);obtain⟨L,hL⟩:=zZ (l:=B) (i:=k) o7;have hba:s.AS k=b:=by rw[gy.AS,ot];exact zX hb
 rw[hba,zX hL];obtain⟨r1,r2⟩:=(h.bk k b L hb hL).add Fa id dm q;refine⟨?_,r2⟩;rw[r2];obtain⟨rest,hr⟩:=U0 (B:=B) 0 k o7;have Ml:=hr L;rw[jL hL]at Ml;have Un:(CB L (zF sd) id dm q).2≠0/\(CB L (zF sd) id dm q).1=L\/(CB L (zF sd) id dm q).2=0/\(CB L (zF sd) id dm q).1=Ie L (zF sd) id dm q:=by
  rw[CB]
  repeat' split
  ·exact .inl ⟨by simp,rfl⟩
  ·exact .inl ⟨by simp,rfl⟩
  ·exact .inl ⟨by simp,rfl⟩
  ·exact .inr ⟨rfl,rfl⟩
 rcases Un with⟨e1,e2⟩|⟨e1,e2⟩
 ·rw[ez e1];refine h.set r1 o7 ?_ ?_
  ·rw[e2,jL hL];exact h.wh
  ·rw[e2,jL hL];exact h.ids
 ·rw[fh e1];have IK:id∉s.wh.map (·.1):=by
   intro hm;obtain⟨x,hx,rfl⟩:=np.1 hm;have:=z1f h.keys hx;rw[h.at_]at this;cases hq:nT B x.1 with
   |none=>rw[hq]at this;cases this
   |some j=>rw[hq]at c2;exact c2 rfl
  have hp:(sm 0 (B.set k (CB L (zF sd) id dm q).1)).Perm ((id,(k:Int))::sm 0 B):=by
   refine(hr _).trans (.trans ?_ (Ml.symm.cons _));rw[e2,<- uh];refine cp _ ?_;have:=(z3u L (zF sd) id dm q).map λi:Int=>(i,(k:Int))
   rw[wb,jf,wb]at this;rw[nq];exact this
  refine h.set r1 o7 ?_ ((hp.map (·.1)).nodup_iff.2 (ym.2 ⟨?_,h.ids⟩))
  ·rw[z4q IK];exact(RI _ _).trans ((h.wh.cons _).trans hp.symm)
  ·rw[<- (h.wh.map (·.1)).mem_iff];exact IK
def z2n:∀(n k:Nat),sm k (ak n [])=[]
 |0,_=>rfl
 |n+1,k=>by rw[J7,sm,z2n];rfl
def yAv (p:fj):(pH p).ga p (ak p.count []):=by
 refine⟨rfl,by simp[pH],λk b L h1 h2=> ?_,?_,?_⟩
 ·have e1:b=oc:=XF (lh (show(ak p.count oc)[k]? =ba b from h1));have e2:L=[]:=XF (lh h2);rw[e1,e2];exact yJl
 ·rw[z2n];exact .refl _
 ·rw[z2n];exact Oc
def y2q (s:Bool):gh:=fp Ic (λi=>[.nm 0 0,zB (zF s)]) (λi=>[yA i.b]) (λi=>i.b.ga i.L) (λ_=> .own 1) (λi=>[yA i.b,.own 135 3 ((uE i.L (zF s)).map im)])
def KR:gh:=y2q av
def KQ:gh:=y2q au
def xEu (s:Bool) (i:Ic):List gr:=[{ι:=Nat,du:=λj=>[(5,.own 0),(19,zB j)],rows:=λj=>[.own 135 3 (((uE i.L (zF s)).take j).map im)]}]
structure BkT where
 b:dq
 L:List zJ
 s:Bool
def aan:gh:=fp BkT (λi=>[.nm 0 0,zB (zF i.s)]) (λi=>[yA i.b]) (λi=>i.b.ga i.L) (λ_=> .own 1) (λi=>[yA i.b,.own 135 3 ((uE i.L (zF i.s)).map im)])
@[reducible] def yOi (s:gy):List fq:=[qB s 0,qB s 1,qB s 2,qB s 3,qB s 4]
def Gp:gh:=fp gy (λ_=>[.nm 0 0]) (λs=>yOi s) gy.ob (λs=> .own 5) (λs=>yOi s++[.own 198 6 (s.fm.map yC)])
structure Bh where
 s:gy
 p:fj
 B:Q_ zJ
 id:Int
 q:Int
def Gu:gh where
 ι:=Bh
 pat:=λi=>[.nm 0 0,zB i.id,zB i.q]
 pre:=λi=>[zE i.s]
 dp:=λi=>i.s.ga i.p i.B/\i.B.length<=1000
 alts:=λi=>[{o:=gy,res:=λ_=>zB (iO i.B i.id i.q).2,post:=λs=>[zE s],rel:=λs=>s.ga i.p (iO i.B i.id i.q).1}]
def z8 (B:Q_ zJ) (id:Int):Int×zJ×Bool:=match nT B id with
 |none=>(0,y4n,av)
 |some k=>(k,c8 (B.getD k []) id,au)
def Gv:gh:=fp Bh (λi=>[.nm 0 0,zB i.id]) (λi=>[zE i.s]) (λi=>i.s.ga i.p i.B/\i.B.length<=1000) (λi=> .je [zB (z8 i.B i.id).1,N' (z8 i.B i.id).2.1,yL (z8 i.B i.id).2.2]) (λi=>[zE i.s])
end Sx
