/- Texts of ours. No condition. -/
import Derived.Test.YtfmobncdogfbmaaGreatR6
set_option linter.all false
open List renaming map->aa,take->ab,pairwise_append->ac,find?_eq_none->ae,filter_congr->af,filter_map->ag,replicate->aj,length_erase_of_mem->ak,map_set->am,map_singleton->ao,range->ap,drop->aq
open Bool renaming true->ar,false->au
open Sx.fq renaming rk->av,cells->aw,own->ax,kr->ay
open Option renaming some->az,none->ba
open Go.Builtin renaming zeroCells->bc,firstCells->be,append_->bg
open Go.IntKind renaming i64->bo
open Go renaming Value->bu,World->bv,Program->bz,size_zeroCells->cd,TypeId->ce,Addr->cf
open Go.Value renaming int->cg
open Function renaming comp->cm
open List.Perm renaming append_right->co,append_left->cp
open True renaming intro->Y_
open Cv.dp renaming mk->W_
namespace Sx
set_option maxRecDepth 100000
open Go Cv Go.Proofs
open Tryz renaming prog->Z_
open Tryz hiding prog
def ySr (i:CZ):Prop:=
 ∃(a:Nat),(a:Int)=0/\iE (ab a i.qs)=[]/\∃(b:Nat->Prop),∃(c:Nat->Nat),b a/\∀(d:Nat),b d->dp (decide ((d:Int)<((aa wT i.l).length:Int))) ((0<=(d:Int)/\(d:Int)<((aa wT i.l).length:Int))/\∃(e:Int),∃(f:Int),∃(g:Int),∃(h:Int),∃(j:Bool),zC (aa wT i.l) (d:Int).toNat 0 5=az [dI e,dI f,dI g,dI h,D.v (.bool j)]/\((iE (ab d i.qs)).length+1)*(8:Nat)<=(140737488355328:Nat)/\∃(k:Nat),(k:Int)=bo.wrap ((d:Int)+1)/\iE (ab k i.qs)=iE (ab d i.qs)++[[dI h]]/\b k/\c k<c d/\Bp i.p (dk (ay 1 (iE i.p.dt)))) (dp (i.p.gn==1) (∃(e:Cu),iE e.l=iE (ab d i.qs)/\e.q=i.q/\(vE e)/\ff (dx (iE (jD i)=iE (fG e.l e.q)/\True))) (dp (i.p.gn==2) (∃(e:List zK),aa wT e=aa wT i.l/\e.length<=1000000/\ff (∃(g:vu),iE g.l=iE (ab d i.qs)/\g.top=jc e/\g.most=i.p.top/\g.least=i.p.least/\g.q=i.q/\(g.l.length<=1000000/\((-9223372036854775808)<=g.q/\g.q<=9223372036854775807)/\((-9223372036854775808)<=g.least/\g.least<=9223372036854775807)/\(-9223372036854775808)<=g.most/\g.most<=9223372036854775807)/\ff (dx (iE (jD i)=iE (Dn g)/\True)))) (dp (i.p.gn==3) (∃(e:Kz),iE e.l=iE (ab d i.qs)/\e.part=i.p.part/\e.least=i.p.least/\e.q=i.q/\(e.l.length<=1000000/\((-9223372036854775808)<=e.q/\e.q<=9223372036854775807)/\((-9223372036854775808)<=e.least/\e.least<=9223372036854775807)/\(-9223372036854775808)<=e.part/\e.part<=9223372036854775807)/\ff (dx (iE (jD i)=iE (Cz e)/\True))) (dx (iE (jD i)=[]/\True)))))
def xAn (i:CZ) (h:He.dp i):ySr i:=by
 obtain⟨hl,hq,hle,sx,Yi⟩:i.l.length<=1000/\gx i.q/\gx i.p.least/\gx i.p.top/\gx i.p.part:=h;have IV:i.qs.length=i.l.length:=by simp[CZ.qs]
 unfold ySr Bp ff dx vE dI;simp only[y9,ib];refine⟨0,i7,i7,λj=>j<=i.l.length,λj=>i.l.length-j,ml _,λj hj=>zH (λc=> ?_) (λc=> ?_)⟩
 ·have oz:j<i.l.length:=X_
  obtain⟨o,ho⟩:=zZ (l:=i.l) (i:=j) oz;have hqo:i.qs[j]? =az o.dr:=by rw[CZ.qs,ra,ho];rfl
  refine⟨⟨oM,oM⟩,o.id,o.side,o.dm,o.dr,o.top,y7d ho,by rw[nr];omega,j+1,pf oM,?_,oz,Z9,gj⟩;rw[qf,hqo];simp[iE]
 have F2:j=i.l.length:=X_
 subst F2;rw[ng (l:=i.qs) X_];refine W_ (λa=> ?_) (λa=>W_ (λb=> ?_) (λb=>W_ (λd=> ?_) (λd=> ?_)))
 ·have a:i.p.gn=1:=i9 a
  exact⟨⟨i.qs,i.q⟩,rfl,rfl,⟨Z9,hq⟩,λ_ _=>⟨(),by rw[jD,fh a],Y_⟩⟩
 ·have a:¬i.p.gn=1:=i9 a
  have b:i.p.gn=2:=i9 b
  exact⟨i.l,rfl,oM,λ_ _=>⟨⟨i.qs,jc i.l,i.p.top,i.p.least,i.q⟩,nh ⟨rfl,⟨Z9,hq,hle,sx⟩,λ_ _=>⟨(),by rw[jD,eg a,fh b],Y_⟩⟩⟩⟩
 ·have a:¬i.p.gn=1:=i9 a
  have b:¬i.p.gn=2:=i9 b
  have d:i.p.gn=3:=i9 d
  exact⟨⟨i.qs,i.p.part,i.p.least,i.q⟩,iP ⟨rfl,⟨Z9,hq,hle,Yi⟩,λ_ _=>⟨(),by rw[jD,eg a,eg b,fh d],Y_⟩⟩⟩
 ·have a:¬i.p.gn=1:=i9 a
  have b:¬i.p.gn=2:=i9 b
  have d:¬i.p.gn=3:=i9 d
  exact⟨(),by rw[jD,eg a,eg b,eg d];rfl,Y_⟩
def yOt:He.ok Z_ 236:=gy mixed (dw yJh (dw yJp (dw y5t (dw xBb fk)))) 0 i6 (λi=>y6r i) [] func236 xAn
def uQ (l:List Nat) (t:Int):Int:=match l with
 |[]=>t
 |k::_=>k
def jU:List Nat->Int->Int
 |[],p=>p
 |k::l,_=>jU l k
structure WY (s:Slot) (n k:Nat) (p t:Int):Prop where
 used:s.used=ar
 no:s.n=k
 queue:s.queue=n
 ahead:s.ahead=p
 back:s.back=t
 q1:0<=s.dr
 q2:s.dr<=1000000
def zb (sl:List Slot) (n:Nat):Int->List Nat->Int->Prop
 |_,[],_=>True
 |p,k::l,t=>(∃s,sl[k]? =az s/\WY s n k p (uQ l t))/\zb sl n k l t
def zNi (l1 l2:List Nat) (t:Int):uQ (l1++l2) t=uQ l1 (uQ l2 t):=by cases l1<;>rfl
def mN:∀(l1 l2:List Nat) (p:Int),jU (l1++l2) p=jU l2 (jU l1 p)
 |[],l2,p=>rfl
 |k::l1,l2,p=>mN l1 l2 k
def N9 {sl:List Slot} {n:Nat}:∀{l1 l2:List Nat} {p t:Int},zb sl n p (l1++l2) t↔zb sl n p l1 (uQ l2 t)/\zb sl n (jU l1 p) l2 t
 |[],l2,p,t=>by simp[zb,jU]
 |k::l1,l2,p,t=>by
  rw[uu,zb,zb,zNi,N9,jU,and_assoc]
def yIo {sl:List Slot} {n k:Nat}:∀{l:List Nat} {p t:Int},zb sl n p l t->k∈l->∃s p' t',sl[k]? =az s/\WY s n k p' t'
 |j::l,p,t,h,hk=>by
  rcases j'.1 hk with rfl|hk
  ·obtain⟨⟨s,h1,h2⟩,_⟩:=h;exact⟨s,_,_,h1,h2⟩
  ·exact yIo h.2 hk
def uN {sl RZ:List Slot} {n:Nat}:∀{l:List Nat} {p t:Int},(∀k∈l,RZ[k]? =sl[k]?)->zb sl n p l t->zb RZ n p l t
 |[],p,t,_,h=>h
 |k::l,p,t,e,⟨⟨s,h1,h2⟩,h3⟩=>⟨⟨s,by rw[e k iY];exact h1,h2⟩,uN (λj hj=>e j (jj _ hj)) h3⟩
def c9 {α:Type} {l:List α} {f:α->α} {i j:Nat} (h:i≠j):(l.modify i f)[j]? =l[j]? :=by rw[FN];cases l[j]? <;>simp[h]
def JP {α:Type} {l:List α} {f:α->α} {i:Nat} {x:α} (h:l[i]? =az x):(l.modify i f)[i]? =az (f x):=by rw[FN,h];simp
def hU {α:Type} {l:List α} {x:α} {i j:Nat} (h:i≠j):(l.set i x)[j]? =l[j]? :=by rw[Ci,eg h]
def cN {α:Type} {l:List α} {x:α} {i:Nat} (h:i<l.length):(l.set i x)[i]? =az x:=by rw[Ci,fh rfl,fh h]
def mI {α:Type} {Q:List α} {n m:Nat} {x y:α} (h:(Q.set n x)[m]? =az y):(m=n/\y=x)\/(m≠n/\Q[m]? =az y):=by
 by_cases e:n=m
 ·subst e;have hn:n<Q.length:=by
   have:=(jk.1 h).1;simpa using this
  rw[cN hn]at h;cases h;exact .inl ⟨rfl,rfl⟩
 ·rw[hU e]at h;exact .inr ⟨λc=>e c.symm,h⟩
def z3k {sl:List Slot} {n k:Nat} {l:List Nat} {p t:Int} (t':Int) (hk:k∉l) (h:zb sl n p (l++[k]) t):zb (sl.modify k λs=>{s with back:=t'}) n p (l++[k]) t':=by
 rw[N9]at h ⊢;obtain⟨h1,⟨s,h2,h3⟩,_⟩:=h;refine⟨uN (λj hj=>c9 (λe=>hk (e▸hj))) h1,⟨_,JP h2,?_⟩,Y_⟩;exact⟨h3.used,h3.no,h3.queue,h3.ahead,rfl,h3.q1,h3.q2⟩
def yMx {sl:List Slot} {n k:Nat} {l:List Nat} {p t:Int} (p':Int) (hk:k∉l) (h:zb sl n p (k::l) t):zb (sl.modify k λs=>{s with ahead:=p'}) n p' (k::l) t:=by
 obtain⟨⟨s,h1,h2⟩,h3⟩:=h;refine⟨⟨_,JP h1,?_⟩,uN (λj hj=>c9 (λe=>hk (e▸hj))) h3⟩;exact⟨h2.used,h2.no,h2.queue,rfl,h2.back,h2.q1,h2.q2⟩
def vR (l:List Nat):l=[]\/∃(x:List Nat) (j:Nat),l=x++[j]/\∀p:Int,jU l p=(j:Int):=by
 rcases List.eq_nil_or_concat l with rfl|⟨x,j,rfl⟩
 ·exact .inl rfl
 ·exact .inr ⟨x,j,by simp,λp=>by rw[List.concat_eq_append,mN];rfl⟩
def tD (l:List Nat):jU l (-1)= -1↔l=[]:=by
 rcases vR l with rfl|⟨x,j,rfl,e⟩
 ·simp[jU]
 ·rw[e];simp
def zYj (l:List Nat):uQ l (-1)= -1↔l=[]:=by
 cases l with
 |nil=>simp[uQ]
 |cons k l=>simp only[uQ];constructor
            ·intro h;omega
            ·intro h;cases h
def Oa {α β:Type} {g:α->β} {f:α->α} (h:∀x,g (f x)=g x):∀(l:List α) (i:Nat),(l.modify i f).map g=l.map g
 |[],i=>by simp
 |a::l,0=>by simp[h]
 |a::l,i+1=>by rw[RO,jg,jg,Oa h l i]
def YY:∀(m:Nat) {l:List Nat},l.Nodup->(∀k∈l,k<m)->l.length<=m
 |0,[],_,_=>jx 0
 |0,k::l,_,h=>absurd (h k iY) oM
 |m+1,l,hn,h=>by
  have:=YY m (hn.erase m) λk hk=>by
   have:=(hn.mem_erase_iff).1 hk;have:=h k this.2;omega
  by_cases hm:m∈l
  ·rw[ak hm]at this;omega
  ·rw[List.erase_of_not_mem hm]at this;omega
def yJb {f g:Nat->Int} {k:Nat}:∀{l:List Nat},l.Nodup->k∈l->(∀j∈l,j≠k->g j=f j)->(l.map g).sum=(l.map f).sum+(g k-f k)
 |j::l,hn,hk,h=>by
  have hn:=yz.1 hn;rw[jg,jg,qi,qi];rcases j'.1 hk with rfl|hk
  ·have:l.map g=l.map f:=uk λi hi=>h i (jj _ hi) (λe=>hn.1 (e▸hi))
   rw[this];omega
  ·have e:=h j iY (λe=>hn.1 (e▸hk));rw[yJb hn.2 hk (λi hi=>h i (jj _ hi)),e];omega
def yRv {f:Nat->Int} {m:Int}:∀{l:List Nat},(∀j∈l,0<=f j/\f j<=m)->0<=(l.map f).sum/\(l.map f).sum<=m*l.length
 |[],_=>by simp
 |j::l,h=>by
  have:=h j iY;have:=yRv (l:=l) λi hi=>h i (jj _ hi)
  rw[jg,qi,iG,Int.natCast_add,Int.mul_add];simp only[Int.natCast_one,Int.mul_one];omega
def dv.oW (a:dv) (l:List Nat):Int:=(l.map λk=>(a.fg k).dr).sum
structure dv.ze (a:dv) (Q:Q_ Nat):Prop where
 len:a.du.length=250
 ql:a.dy.length=Q.length
 q:∀(n:Nat) (l:List Nat),Q[n]? =az l->a.dy[n]? =az ⟨uQ l (-1),jU l (-1),a.oW l,l.length⟩
 sg:∀(n:Nat) (l:List Nat),Q[n]? =az l->zb a.du n (-1) l (-1)
 nd:∀(n:Nat) (l:List Nat),Q[n]? =az l->l.Nodup
 us:∀(k:Nat) (s:Slot),a.du[k]? =az s->s.used=ar->∃(n:Nat) (l:List Nat),Q[n]? =az l/\k∈l
 free:a.free=((a.du.map (·.used)).countP (!·):Nat)
structure dv.Wf (a:dv) (Q:Q_ Nat):Prop extends a.ze Q where
 pos:∀(n:Nat) (l:List Nat),Q[n]? =az l->∀k∈l,1<=(a.fg k).dr
def dv.ze.mem {a:dv} {Q:Q_ Nat} (h:a.ze Q) {n k:Nat} {l:List Nat} (hl:Q[n]? =az l) (hk:k∈l):k<250/\(∃p t,WY (a.fg k) n k p t)/\a.du[k]? =az (a.fg k):=by
 obtain⟨s,p,t,h1,h2⟩:=yIo (h.sg n l hl) hk;have e:a.fg k=s:=zX h1;have gr:=(jk.1 h1).1;rw[h.len]at gr;exact⟨gr,⟨p,t,by rw[e];exact h2⟩,by rw[e];exact h1⟩
def dv.ze.one {a:dv} {Q:Q_ Nat} (h:a.ze Q) {n m k:Nat} {l l':List Nat} (hl:Q[n]? =az l) (hl':Q[m]? =az l') (hk:k∈l) (qc:k∈l'):n=m:=by
 obtain⟨_,⟨_,_,h1⟩,_⟩:=h.mem hl hk;obtain⟨_,⟨_,_,h2⟩,_⟩:=h.mem hl' qc;have:=h1.queue;have:=h2.queue;omega
def dv.ze.short {a:dv} {Q:Q_ Nat} (h:a.ze Q) {n:Nat} {l:List Nat} (hl:Q[n]? =az l):l.length<=250:=YY 250 (h.nd n l hl) λk hk=>(h.mem hl hk).1
def nD {a a':dv} {l:List Nat} (h:∀k∈l,(a'.fg k).dr=(a.fg k).dr):a'.oW l=a.oW l:=by rw[dv.oW,dv.oW,uk h]
def dv.ze.sum {a:dv} {Q:Q_ Nat} (h:a.ze Q) {n:Nat} {l:List Nat} (hl:Q[n]? =az l):0<=a.oW l/\a.oW l<=250000000:=by
 have:=yRv (f:=λk=>(a.fg k).dr) (m:=1000000) (l:=l) λj hj=>by
  obtain⟨_,⟨_,_,h1⟩,_⟩:=h.mem hl hj;exact⟨h1.q1,h1.q2⟩
 have:=h.short hl;rw[dv.oW];omega
def zYo {sl:List Slot} {n:Nat}:∀{l:List Nat} {p:Int},zb sl n p l (-1)->Rr sl (uQ l (-1)) l
 |[],p,_=>rfl
 |k::l,p,⟨⟨s,h1,h2⟩,h3⟩=>by
  refine⟨rfl,(jk.1 h1).1,?_⟩;rw[zX h1,h2.back];exact zYo h3
def dv.ze.ok {a:dv} {Q:Q_ Nat} (h:a.ze Q):a.EA:=by
 refine⟨by rw[h.len];decide,λk s hk hu=> ?_⟩;obtain⟨n,l,hl,pg⟩:=h.us k s hk hu;have hQ:=(jk.1 hl).1;have IV:=h.ql;obtain⟨l1,l2,rfl⟩:=List.append_of_mem pg;have Kl:=h.sg n _ hl;have rj:=h.nd n _ hl;rw[N9]at Kl;obtain⟨_,⟨s',h1,h2⟩,_⟩:=Kl;rw[hk]at h1;cases h1;have hq:=h2.queue;have hd:=AB.1 rj;have AJ:=yz.1 hd.2.1;refine⟨⟨oM,oM⟩,h2.q2,?_,?_⟩
 ·rw[h2.ahead];rcases vR l1 with rfl|⟨x,j,rfl,e⟩
  ·exact .inl rfl
  ·have hj:j∈x++[j]:=by simp
   have Fh:=(h.mem hl (za _ hj)).1;rw[e,h.len];refine .inr ⟨oM,oM,λe2=> ?_⟩;have:j=k:=X_
   exact hd.2.2 j hj k iY this
 ·rw[h2.back];cases l2 with
  |nil=>exact .inl rfl
  |cons j x=>
   have Fh:=(h.mem hl (Af _ (jj _ iY))).1;rw[uQ,h.len];refine .inr ⟨oM,oM,λe2=> ?_⟩;have:j=k:=X_
   exact AJ.1 (this▸iY)
def dv.ze.open {a:dv} {Q:Q_ Nat} (h:a.ze Q):a.sc.ze (Q++[[]]):=by
 have g:∀{n:Nat} {l:List Nat},(Q++[[]])[n]? =az l->Q[n]? =az l\/(n=Q.length/\l=[]):=by
  intro n l hl;rw[List.getElem?_append]at hl;split at hl
  ·exact .inl hl
  ·rename_i hn;have:=(jk.1 hl).1;simp only[Bh]at this;have e:n-Q.length=0:=X_
   rw[e]at hl;cases hl;exact .inr ⟨oM,rfl⟩
 refine⟨h.len,by simp[dv.sc,h.ql],λn l hl=> ?_,λn l hl=> ?_,λn l hl=> ?_,λk s hk hu=> ?_,h.free⟩
 ·rcases g hl with hl|⟨rfl,rfl⟩
  ·show(a.dy++[pG])[n]? =_;rw[Ek (by have:=(jk.1 hl).1;have:=h.ql;omega)];exact h.q n l hl
  ·show(a.dy++[pG])[_]? =_;rw[<- h.ql,Ck (jx _),J6];rfl
 ·rcases g hl with hl|⟨rfl,rfl⟩
  ·exact h.sg n l hl
  ·trivial
 ·rcases g hl with hl|⟨rfl,rfl⟩
  ·exact h.nd n l hl
  ·exact Ou
 ·obtain⟨n,l,hl,pg⟩:=h.us k s hk hu;exact⟨n,l,by rw[Ek (jk.1 hl).1];exact hl,pg⟩
def dv.Wf.open {a:dv} {Q:Q_ Nat} (h:a.Wf Q):a.sc.Wf (Q++[[]]):=by
 refine⟨h.toze.open,λn l hl k hk=> ?_⟩;rw[List.getElem?_append]at hl;split at hl
 ·exact h.pos n l hl k hk
 ·have:=(jk.1 hl).1;simp only[Bh]at this;have e:n-Q.length=0:=X_
  rw[e]at hl;cases hl;cases hk
def ZP {sl RZ:List Slot} {n:Nat}:∀{l:List Nat} {p t:Int},(∀k∈l,∀s,sl[k]? =az s->∃s',RZ[k]? =az s'/\s'.used=s.used/\s'.n=s.n/\s'.queue=s.queue/\s'.ahead=s.ahead/\s'.back=s.back/\0<=s'.dr/\s'.dr<=1000000)->zb sl n p l t->zb RZ n p l t
 |[],p,t,_,h=>h
 |k::l,p,t,e,⟨⟨s,h1,h2⟩,h3⟩=>by
  obtain⟨s',q0,q1,q2,q3,q4,q5,q6,q7⟩:=e k iY s h1;exact⟨⟨s',q0,⟨q1.trans h2.used,q2.trans h2.no,q3.trans h2.queue,q4.trans h2.ahead,q5.trans h2.back,q6,q7⟩⟩,ZP (λj hj=>e j (jj _ hj)) h3⟩
def z2e (a:dv) (n:Int) (t:Bool) (j:Nat):(a.mq n t).fg j=if a.iz n=ar/\j=n.toNat then{a.fg j with top:=t}else a.fg j:=by
 rw[dv.mq];by_cases hu:a.iz n=ar
 ·rw[fh hu];by_cases e:j=n.toNat
  ·subst e;rw[fh ⟨hu,rfl⟩];have gr:n.toNat<a.du.length:=by
    simp only[dv.iz,lu,ua]at hu;omega
   show(a.du.modify n.toNat _).getD n.toNat iK=_;obtain⟨s,hs⟩:=zZ gr;rw[zX (JP hs),x5 hs]
  ·rw[eg (λh=>e h.2)];show(a.du.modify n.toNat _).getD j iK=a.du.getD j iK;rw[mz,c9 (λh=>e h.symm),mz]
 ·rw[eg hu,eg (λh=>hu h.1)]
def dv.Wf.top {a:dv} {Q:Q_ Nat} (h:a.Wf Q) (n:Int) (t:Bool):(a.mq n t).Wf Q:=by
 have hq:∀j,((a.mq n t).fg j).dr=(a.fg j).dr:=by
  intro j;rw[z2e];split<;>rfl
 by_cases hu:a.iz n=ar
 ·have e:a.mq n t={a with du:=a.du.modify n.toNat λs=>{s with top:=t}}:=by rw[dv.mq,fh hu]
  have hm:∀(k:Nat) (s:Slot),a.du[k]? =az s->∃s',(a.mq n t).du[k]? =az s'/\s'.used=s.used/\s'.n=s.n/\s'.queue=s.queue/\s'.ahead=s.ahead/\s'.back=s.back/\s'.dr=s.dr:=by
   intro k s hk;rw[e];by_cases ek:n.toNat=k
   ·subst ek;exact⟨_,JP hk,rfl,rfl,rfl,rfl,rfl,rfl⟩
   ·exact⟨s,by rw[c9 ek];exact hk,tr rfl⟩
  have hl:(a.mq n t).du.length=250:=by rw[e];simpa using h.len
  have Mq:(a.mq n t).du.map (·.used)=a.du.map (·.used):=by rw[e];exact Oa (g:=λs:Slot=>s.used) (f:=λs:Slot=>{s with top:=t}) (λ_=>rfl) _ _
  refine⟨⟨hl,by rw[e];exact h.ql,λm l AG=> ?_,λm l AG=> ?_,h.nd,λk s hk hs=> ?_,by rw[Mq];rw[e];exact h.free⟩,λm l AG k hk=>by rw[hq];exact h.pos m l AG k hk⟩
  ·rw[nD λk _=>hq k];rw[e];exact h.q m l AG
  ·refine ZP (λk hk s hs=> ?_) (h.sg m l AG);obtain⟨s',q0,q1,q2,q3,q4,q5,q6⟩:=hm k s hs;obtain⟨_,⟨_,_,h2⟩,h3⟩:=h.mem AG hk;rw[hs]at h3;cases h3;exact⟨s',q0,q1,q2,q3,q4,q5,by rw[q6];exact h2.q1,by rw[q6];exact h2.q2⟩
  ·have gr:=(jk.1 hk).1;rw[hl,<- h.len]at gr;obtain⟨s0,h0⟩:=zZ gr;obtain⟨s',q0,q1,_⟩:=hm k s0 h0;rw[hk]at q0;cases q0;exact h.us k s0 h0 (by rw[<- q1];exact hs)
 ·have e:a.mq n t=a:=by rw[dv.mq,eg hu]
  rw[e];exact h
def zVm {sl:List Slot} {k:Nat} {s x:Slot} (hk:sl[k]? =az s):((sl.set k x).map (·.used)).countP (!·)+(if s.used=ar then 0 else 1)=(sl.map (·.used)).countP (!·)+(if x.used=ar then 0 else 1):=by
 have gr:=(jk.1 hk).1;have e:(sl.map (·.used))[k]'(i9 gr)=s.used:=by
  rw[List.getElem_map,(jk.1 hk).2]
 rw[am,List.countP_set (i9 gr),e];have hp:s.used=au->1<=(sl.map (·.used)).countP (!·):=by
  intro h;apply List.countP_pos_iff.2;exact⟨s.used,sv (kx hk),by rw[h];rfl⟩
 generalize (sl.map (·.used)).countP (!·)=c at hp ⊢
 cases h1:s.used<;>cases h2:x.used
 all_goals
  simp only[h1,J9,Bool.not_true,oS,↓reduceIte,if_true,if_false]at hp ⊢
  try have hp:=hp Y_
  omega
def yHk {sl:List Slot}:(sl.map (·.used)).countP (!·)<=sl.length:=by
 have:=List.countP_le_length (p:=λb:Bool=> !b) (l:=sl.map (·.used))
 simpa using this
def dv.ze.unused {a:dv} {Q:Q_ Nat} (h:a.ze Q) (hf:a.free≠0):∃k:Nat,jS a.du=k/\k<250/\a.du[k]? =az (a.fg k)/\(a.fg k).used=au/\∀(n:Nat) (l:List Nat),Q[n]? =az l->k∉l:=by
 have hx:∃s∈a.du,s.used=au:=by
  have hp:0<(a.du.map (·.used)).countP (!·):=by have:=h.free;omega
  obtain⟨b,hb,np⟩:=List.countP_pos_iff.1 hp;obtain⟨s,hs,rfl⟩:=nn.1 hb;exact⟨s,hs,i9 np⟩
 obtain⟨s,hs,hu⟩:=hx;cases hi:a.du.findIdx? λs=> !s.used with
 |none=>
  rw[OH]at hi;have:=hi s hs;rw[hu]at this;cases this
 |some k=>
  have O8:=hi;rw[Mj]at hi;obtain⟨hk,H9,_⟩:=hi;have AH:a.du[k]? =az a.du[k]:=vl hk;have e:=x5 AH;rw[<- e]at H9;have H9:(a.fg k).used=au:=i9 H9
  refine⟨k,by rw[jS,O8];rfl,by rw[<- h.len];exact hk,by rw[e];exact AH,H9,λn l hl pg=> ?_⟩;obtain⟨_,⟨_,_,h2⟩,_⟩:=h.mem hl pg;have:=h2.used;rw[H9]at this;cases this
def dv.Wf.put {a:dv} {Q:Q_ Nat} (h:a.Wf Q) {n:Nat} {l:List Nat} (hl:Q[n]? =az l) (hf:a.free≠0) {id dr:Int} (top:Bool) (hq:1<=dr/\dr<=1000000):
 ∃k:Nat,jS a.du=k/\k<250/\(a.fg k).used=au/\(∀(m:Nat) (l:List Nat),Q[m]? =az l->k∉l)/\(a.put n id dr top).Wf (Q.set n (l++[k]))/\
  (∀j,((a.put n id dr top).fg j).qd=if j=k then⟨k,id,dr,top⟩else(a.fg j).qd)/\(a.put n id dr top).free=a.free-1:=by
 obtain⟨k,hk,o5,AH,H9,Mr⟩:=h.toze.unused hf;have pg:=Mr n l hl;have F1:=(jk.1 hl).1;have hqn:=h.q n l hl;have F0:a.dy.getD n pG=⟨uQ l (-1),jU l (-1),a.oW l,l.length⟩:=zX hqn;have C1:=h.toze.sum hl;have OW:=h.toze.short hl;have hlen:=h.len;have xe:=yHk (sl:=a.du);have ve:=h.free;obtain⟨x,hx⟩:∃x:Slot,x=⟨ar,k,id,dr,top,n,jU l (-1),-1⟩:=⟨_,rfl⟩
 have hS:(a.put n id dr top).du=if jU l (-1)= -1 then a.du.set k x else(a.du.set k x).modify (jU l (-1)).toNat λs=>{s with back:=k}:=by
  simp only[dv.put,ov,F0,hk,hx]
 have Mx:(a.put n id dr top).dy=a.dy.set n ⟨uQ (l++[k]) (-1),k,a.oW l+dr,(l.length:Int)+1⟩:=by
  simp only[dv.put,ov,F0,hk];rw[iw X_,iw X_];congr 2;by_cases e:l=[]
  ·subst e;rfl
  ·rw[eg (λc=>e ((tD l).1 c)),zNi];cases l with
   |nil=>exact absurd rfl e
   |cons y ys=>rfl
 have hF:(a.put n id dr top).free=a.free-1:=by
  simp only[dv.put];rw[iw X_]
 have qu:(a.du.set k x)[k]? =az x:=cN oM;have hlo:jU l (-1)= -1\/∃(y:List Nat) (j:Nat),l=y++[j]/\jU l (-1)=(j:Int):=by
  rcases vR l with e|⟨y,j,e,e2⟩
  ·exact .inl ((tD l).2 e)
  ·exact .inr ⟨y,j,e,e2 _⟩
 have Jf:∀j,j≠k->(jU l (-1)≠(j:Int))->(a.put n id dr top).du[j]? =a.du[j]? :=by
  intro j hj Ia;rw[hS];split
  ·exact hU (λe=>hj e.symm)
  ·rcases hlo with e|⟨y,i,_,e⟩
   ·contradiction
   ·rw[c9 X_,hU (λe=>hj e.symm)]
 have B0:(a.put n id dr top).du[k]? =az x:=by
  rw[hS];split
  ·exact qu
  ·rcases hlo with e|⟨y,i,e1,e⟩
   ·contradiction
   ·have:i≠k:=by rintro rfl;exact pg (by rw[e1];simp)
    rw[c9 X_];exact qu
 have si:∀j,j≠k->((a.put n id dr top).fg j).qd=(a.fg j).qd/\((a.put n id dr top).fg j).used=(a.fg j).used/\((a.put n id dr top).fg j).dr=(a.fg j).dr:=by
  intro j hj;by_cases c:jU l (-1)=(j:Int)
  ·have e:(a.put n id dr top).du=(a.du.set k x).modify j λs=>{s with back:=k}:=by
    rw[hS,eg X_,c];rfl
   by_cases Fh:j<a.du.length
   ·obtain⟨s,hs⟩:=zZ Fh;have h1:(a.put n id dr top).du[j]? =az {s with back:=k}:=by rw[e];exact JP (by rw[hU (λe=>hj e.symm)];exact hs)
    rw[x5 h1,x5 hs];exact⟨rfl,rfl,rfl⟩
   ·have h1:(a.put n id dr top).du[j]? =ba:=uv (by rw[e];simpa using Fh);have h2:a.du[j]? =ba:=uv oM;rw[dv.fg,dv.fg,mz,mz,h1,h2];exact⟨rfl,rfl,rfl⟩
  ·have:=Jf j hj c;rw[dv.fg,dv.fg,mz,mz,this];exact⟨rfl,rfl,rfl⟩
 have Dc:(a.put n id dr top).fg k=x:=x5 B0;have EH:∀j,((a.put n id dr top).fg j).qd=if j=k then⟨k,id,dr,top⟩else(a.fg j).qd:=by
  intro j;split
  ·rename_i e;rw[e,Dc,hx];rfl
  ·rename_i e;exact(si j e).1
 have gQ:∀{m:Nat} {l':List Nat},(Q.set n (l++[k]))[m]? =az l'->(m=n/\l'=l++[k])\/(m≠n/\Q[m]? =az l'):=by
  intro m l' hm;exact mI hm
 have MO:zb (a.put n id dr top).du n (-1) (l++[k]) (-1):=by
  rw[N9];refine⟨?_,⟨x,B0,?_⟩,Y_⟩
  ·rcases vR l with e|⟨y,j,e,e2⟩
   ·subst e;trivial
   ·have h0:=h.sg n l hl;have rj:=h.nd n l hl;rw[hS,eg (by rw[e2];omega),e2,ov];rw[e]at h0 rj pg ⊢;have hd:=AB.1 rj;refine z3k (k:Int) (λhj=>hd.2.2 j hj j iY rfl) (t:= -1) ?_;exact uN (λi hi=>hU (λe=>pg (e▸hi))) h0
  ·rw[hx];exact⟨rfl,rfl,rfl,rfl,rfl,Z9,hq.2⟩
 refine⟨k,hk,o5,H9,Mr,⟨⟨?_,?_,?_,?_,?_,?_,?_⟩,?_⟩,EH,hF⟩
 ·rw[hS];split<;>simp[hlen]
 ·rw[Mx];simp[h.ql]
 ·intro m l' hm;rcases gQ hm with⟨rfl,rfl⟩|⟨e,hm⟩
  ·rw[Mx,cN (by rw[h.ql];exact F1),mN];have:(a.put m id dr top).oW (l++[k])=a.oW l+dr:=by
    rw[dv.oW,jh,J'];have e1:l.map (λk=>((a.put m id dr top).fg k).dr)=l.map λk=>(a.fg k).dr:=uk λj hj=>(si j (λe=>pg (e▸hj))).2.2
    rw[e1];simp only[jg,Bz,qi,List.sum_nil,Dc];rw[hx,dv.oW];dsimp only;omega
   rw[this];simp[jU]
  ·rw[Mx,hU (λc=>e c.symm),h.q m l' hm,nD];intro j hj;exact(si j (λe=>Mr m l' hm (e▸hj))).2.2.symm
 ·intro m l' hm;rcases gQ hm with⟨rfl,rfl⟩|⟨e,hm⟩
  ·exact MO
  ·refine uN (λj hj=>Jf j (λe=>Mr m l' hm (e▸hj)) λc=> ?_) (h.sg m l' hm);rcases hlo with e2|⟨y,i,e1,e2⟩
   ·omega
   ·have:i=j:=X_
    exact e (h.toze.one hm hl hj (by rw[e1];simp[this]))
 ·intro m l' hm;rcases gQ hm with⟨rfl,rfl⟩|⟨e,hm⟩
  ·refine AB.2 ⟨h.nd m l hl,by simp,?_⟩;rintro i hi j hj rfl;rw[tq.1 hj]at hi;exact pg hi
  ·exact h.nd m l' hm
 ·intro j s hj hs;by_cases e:j=k
  ·exact⟨n,l++[k],cN F1,by rw[e];simp⟩
  ·have hu:(a.fg j).used=ar:=by rw[<- (si j e).2.1,x5 hj];exact hs
   have Fh:j<a.du.length:=by
    have:=(jk.1 hj).1;rw[hS]at this;split at this<;>simpa using this
   obtain⟨s',iQ⟩:=zZ Fh;rw[x5 iQ]at hu;obtain⟨m,l',hm,SA⟩:=h.us j s' iQ hu;by_cases em:m=n
   ·subst em;rw[hl]at hm;cases hm;exact⟨m,l++[k],cN F1,za _ SA⟩
   ·exact⟨m,l',by rw[hU (λc=>em c.symm)];exact hm,SA⟩
 ·have Mq:(a.put n id dr top).du.map (·.used)=(a.du.set k x).map (·.used):=by
   rw[hS];split
   ·rfl
   ·exact Oa (g:=λs:Slot=>s.used) (f:=λs:Slot=>{s with back:=k}) (λ_=>rfl) _ _
  have:=zVm (x:=x) AH;rw[H9,eg (by decide),show x.used=ar by rw[hx],fh rfl]at this;rw[Mq,hF,ve];omega
 ·intro m l' hm j hj;rcases gQ hm with⟨rfl,rfl⟩|⟨e,hm⟩
  ·rcases oH.1 hj with hj|hj
   ·rw[(si j (λe=>pg (e▸hj))).2.2];exact h.pos m l hl j hj
   ·rw[tq.1 hj,Dc,hx];exact hq.1
  ·rw[(si j (λe=>Mr m l' hm (e▸hj))).2.2];exact h.pos m l' hm j hj
def PN (a:dv) (k:Nat) (q:Int) (j:Nat) (hk:k<a.du.length):(a.less k q).fg j=if j=k then{a.fg j with dr:=(a.fg j).dr-q}else a.fg j:=by
 split
 ·rename_i e;subst e;obtain⟨s,hs⟩:=zZ hk;rw[x5 hs,x5 (a:=a.less j q) (JP hs)]
 ·rename_i e;show(a.du.modify k _).getD j iK=a.du.getD j iK;rw[mz,c9 (λc=>e c.symm),mz]
def dv.ze.less {a:dv} {Q:Q_ Nat} (h:a.ze Q) {n k:Nat} {l:List Nat} (hl:Q[n]? =az l) (hk:k∈l) {q:Int} (hq:0<=q/\q<=(a.fg k).dr):(a.less k q).ze Q:=by
 obtain⟨o5,⟨p,t,hs⟩,AH⟩:=h.mem hl hk;have pg:k<a.du.length:=by rw[h.len];exact o5
 have hqt:(a.fg k).queue.toNat=n:=by rw[hs.queue];exact ov n
 have hm:∀(j:Nat) (s:Slot),a.du[j]? =az s->∃s',(a.less k q).du[j]? =az s'/\s'.used=s.used/\s'.n=s.n/\s'.queue=s.queue/\s'.ahead=s.ahead/\s'.back=s.back:=by
  intro j s hj;by_cases e:k=j
  ·subst e;exact⟨_,JP hj,rfl,rfl,rfl,rfl,rfl⟩
  ·exact⟨s,by rw[show(a.less k q).du=a.du.modify k _ from rfl,c9 e];exact hj,rfl,rfl,rfl,rfl,rfl⟩
 have zc:(a.less k q).du.length=250:=by simpa[dv.less]using h.len
 have FY:(a.less k q).dy=a.dy.modify n λx=>{x with total:=bo.wrap (x.total-q)}:=by rw[dv.less,hqt]
 have Mq:(a.less k q).du.map (·.used)=a.du.map (·.used):=Oa (g:=λs:Slot=>s.used) (f:=λs:Slot=>{s with dr:=s.dr-q}) (λ_=>rfl) _ _
 refine⟨zc,by rw[FY];simpa using h.ql,λm l' AG=> ?_,λm l' AG=> ?_,h.nd,λj s hj hu=> ?_,by rw[Mq];exact h.free⟩
 ·by_cases e:n=m
  ·subst e;rw[hl]at AG;cases AG;rw[FY,JP (h.q n l hl)];have C1:=h.sum hl;have e2:(a.less k q).oW l=a.oW l-q:=by
    rw[dv.oW,dv.oW,yJb (k:=k) (f:=λk=>(a.fg k).dr) (h.nd n l hl) hk]
    ·rw[PN a k q k pg,fh rfl];dsimp only;omega
    ·intro j _ hj;rw[PN a k q j pg,eg hj]
   have h1:=hs.q2;rw[e2];dsimp only;rw[iw X_]
  ·rw[FY,c9 e,h.q m l' AG,nD];intro j hj;have:j≠k:=λc=>e (h.one hl AG hk (c▸hj))
   rw[PN a k q j pg,eg this]
 ·refine ZP (λj hj s iQ=> ?_) (h.sg m l' AG);obtain⟨s',q0,q1,q2,q3,q4,q5⟩:=hm j s iQ;refine⟨s',q0,q1,q2,q3,q4,q5,?_⟩;have e:=x5 q0;rw[<- e,PN a k q j pg];obtain⟨_,⟨_,_,h2⟩,h3⟩:=h.mem AG hj;have:=h2.q1;have:=h2.q2;split
  ·rename_i c;subst c;dsimp only;omega
  ·omega
 ·have gr:=(jk.1 hj).1;rw[zc,<- h.len]at gr;obtain⟨s0,h0⟩:=zZ gr;obtain⟨s',q0,q1,_⟩:=hm j s0 h0;rw[hj]at q0;cases q0;exact h.us j s0 h0 (by rw[<- q1];exact hu)
def dv.ze.drop {a:dv} {Q:Q_ Nat} (h:a.ze Q) {n k:Nat} {l1 l2:List Nat} (hl:Q[n]? =az (l1++k::l2)) (h0:(a.fg k).dr=0):
 (a.iN k).ze (Q.set n (l1++l2))/\(∀j,j≠k->((a.iN k).fg j).qd=(a.fg j).qd/\((a.iN k).fg j).used=(a.fg j).used/\((a.iN k).fg j).dr=(a.fg j).dr)/\(a.iN k).fg k=iK/\(a.iN k).free=a.free+1:=by
 have hkm:k∈l1++k::l2:=by simp
 have F1:=(jk.1 hl).1;obtain⟨o5,_,AH⟩:=h.mem hl hkm;have hlen:=h.len;have pg:k<a.du.length:=X_
 have Kl:=h.sg n _ hl;have rj:=h.nd n _ hl;have hd:=AB.1 rj;have AJ:=yz.1 hd.2.1;have k1:k∉l1:=λhk=>hd.2.2 k hk k iY rfl
 have k2:k∉l2:=AJ.1;rw[N9]at Kl;obtain⟨g1,⟨s,um,hs⟩,g2⟩:=Kl;have es:=x5 um;have eqn:(a.dy.getD s.queue.toNat pG)=⟨uQ (l1++k::l2) (-1),jU (l1++k::l2) (-1),a.oW (l1++k::l2),(l1++k::l2).length⟩:=by
  rw[hs.queue,ov];exact zX (h.q n _ hl)
 have ve:=h.free;have xe:=yHk (sl:=a.du);have OW:=h.short hl;obtain⟨AF,zu⟩:∃AF,AF=if jU l1 (-1)= -1 then a.du else a.du.modify (jU l1 (-1)).toNat λx=>{x with back:=uQ l2 (-1)}:=⟨_,rfl⟩
 obtain⟨Dx,zt⟩:∃Dx,Dx=if uQ l2 (-1)= -1 then AF else AF.modify (uQ l2 (-1)).toNat λx=>{x with ahead:=jU l1 (-1)}:=⟨_,rfl⟩
 have hS:(a.iN k).du=Dx.set k iK:=by
  simp only[dv.iN,es,hs.ahead,hs.back];rw[zt,zu]
 have Mx:(a.iN k).dy=a.dy.set n ⟨uQ (l1++l2) (-1),jU (l1++l2) (-1),a.oW (l1++l2),(l1++l2).length⟩:=by
  simp only[dv.iN,es,eqn,hs.ahead,hs.back];rw[hs.queue,ov];have el:(l1++k::l2).length=(l1++l2).length+1:=by simp;omega
  have eq:a.oW (l1++k::l2)=a.oW (l1++l2):=by
   rw[dv.oW,dv.oW,jh,J',jh,J',jg,qi,h0];omega
  rw[el]at OW ⊢;rw[iw X_,eq];congr 2
  ·cases l1 with
   |nil=>simp[jU,zNi,uQ]
   |cons y ys=>
    rw[eg (by rw[tD];simp)];rfl
  ·rcases vR l2 with e|⟨x,j,e,e2⟩
   ·subst e;simp[uQ,mN,jU]
   ·have:l2≠[]:=by rw[e];simp
    rw[eg (λc=>this ((zYj l2).1 c)),mN,mN,jU,e2,e2]
  ·simp
 have hF:(a.iN k).free=a.free+1:=by
  simp only[dv.iN];rw[iw X_]
 have CT:jU l1 (-1)= -1\/∃(y:List Nat) (j:Nat),l1=y++[j]/\jU l1 (-1)=(j:Int):=by
  rcases vR l1 with e|⟨y,j,e,e2⟩
  ·exact .inl ((tD l1).2 e)
  ·exact .inr ⟨y,j,e,e2 _⟩
 have Cp:uQ l2 (-1)= -1\/∃(y:List Nat) (j:Nat),l2=j::y/\uQ l2 (-1)=(j:Int):=by
  cases l2 with
  |nil=>exact .inl rfl
  |cons j y=>exact .inr ⟨y,j,rfl,rfl⟩
 have Jf:∀j,j∉l1->j∉l2->j≠k->(a.iN k).du[j]? =a.du[j]? :=by
  intro j h1 h2 h3;rw[hS,hU (λe=>h3 e.symm),zt];have e1:AF[j]? =a.du[j]? :=by
   rw[zu];split
   ·rfl
   ·rcases CT with e|⟨y,i,e,e2⟩
    ·contradiction
    ·rw[c9];rw[e2,ov];rintro rfl;exact h1 (by rw[e];simp)
  split
  ·exact e1
  ·rcases Cp with e|⟨y,i,e,e2⟩
   ·contradiction
   ·rw[c9,e1];rw[e2,ov];rintro rfl;exact h2 (by rw[e];simp)
 have si:∀j,j≠k->((a.iN k).fg j).qd=(a.fg j).qd/\((a.iN k).fg j).used=(a.fg j).used/\((a.iN k).fg j).dr=(a.fg j).dr:=by
  intro j hj;have m1:∀(sl:List Slot) (i:Nat) (b:Int),((sl.modify i λx=>{x with back:=b}).getD j iK).qd=(sl.getD j iK).qd/\((sl.modify i λx=>{x with back:=b}).getD j iK).used=(sl.getD j iK).used/\((sl.modify i λx=>{x with back:=b}).getD j iK).dr=(sl.getD j iK).dr:=by
   intro sl i b;rw[mz,mz,FN];cases sl[j]? with
   |none=>exact⟨rfl,rfl,rfl⟩
   |some s=>by_cases e:i=j<;>simp[e,Slot.qd]
  have m2:∀(sl:List Slot) (i:Nat) (b:Int),((sl.modify i λx=>{x with ahead:=b}).getD j iK).qd=(sl.getD j iK).qd/\((sl.modify i λx=>{x with ahead:=b}).getD j iK).used=(sl.getD j iK).used/\((sl.modify i λx=>{x with ahead:=b}).getD j iK).dr=(sl.getD j iK).dr:=by
   intro sl i b;rw[mz,mz,FN];cases sl[j]? with
   |none=>exact⟨rfl,rfl,rfl⟩
   |some s=>by_cases e:i=j<;>simp[e,Slot.qd]
  have e0:(a.iN k).fg j=Dx.getD j iK:=by
   rw[dv.fg,hS,mz,hU (λe=>hj e.symm),mz]
  have e1:(AF.getD j iK).qd=(a.fg j).qd/\(AF.getD j iK).used=(a.fg j).used/\(AF.getD j iK).dr=(a.fg j).dr:=by
   rw[zu];split
   ·exact⟨rfl,rfl,rfl⟩
   ·exact m1 _ _ _
  have e2:(Dx.getD j iK).qd=(AF.getD j iK).qd/\(Dx.getD j iK).used=(AF.getD j iK).used/\(Dx.getD j iK).dr=(AF.getD j iK).dr:=by
   rw[zt];split
   ·exact⟨rfl,rfl,rfl⟩
   ·exact m2 _ _ _
  rw[e0];exact⟨e2.1.trans e1.1,e2.2.1.trans e1.2.1,e2.2.2.trans e1.2.2⟩
 have hl1:AF.length=250:=by rw[zu];split<;>simp[hlen]
 have Fg:Dx.length=250:=by rw[zt];split<;>simp[hl1]
 have B0:(a.iN k).du[k]? =az iK:=by rw[hS];exact cN oM
 have MO:zb (a.iN k).du n (-1) (l1++l2) (-1):=by
  rw[hS,N9];constructor
  ·--the part ahead
   refine uN (sl:=Dx) (λj hj=>hU (λe=>k1 (e▸hj))) ?_;have f1:zb AF n (-1) l1 (uQ l2 (-1)):=by
    rcases vR l1 with e|⟨y,j,e,e2⟩
    ·subst e;trivial
    ·rw[zu,eg (by rw[e2];omega),e2,ov];subst e;have hd3:=AB.1 hd.1;exact z3k _ (λhj=>hd3.2.2 j hj j iY rfl) g1
   refine uN (λj hj=> ?_) f1;rw[zt];split
   ·rfl
   ·rcases Cp with e|⟨y,i,e,e2⟩
    ·contradiction
    ·refine c9 ?_;rw[e2,ov];rintro rfl;exact hd.2.2 i hj i (jj _ (by rw[e];simp)) rfl
  ·--the part behind
   refine uN (sl:=Dx) (λj hj=>hU (λe=>k2 (e▸hj))) ?_;have f1:zb AF n k l2 (-1):=by
    refine uN (λj hj=> ?_) g2;rw[zu];split
    ·rfl
    ·rcases CT with e|⟨y,i,e,e2⟩
     ·contradiction
     ·refine c9 ?_;rw[e2,ov];rintro rfl;exact hd.2.2 i (by rw[e];simp) i (jj _ hj) rfl
   rcases Cp with e|⟨y,j,e,e2⟩
   ·rw[(zYj l2).1 e];trivial
   ·rw[zt,eg (by rw[e2];omega),e2,ov];rw[e]at f1 AJ ⊢;exact yMx _ (yz.1 AJ.2).1 f1
 refine⟨⟨?_,?_,?_,?_,?_,?_,?_⟩,si,x5 B0,hF⟩
 ·rw[hS,qj];exact Fg
 ·rw[Mx];simp[h.ql]
 ·intro m l' hm;rcases mI hm with⟨rfl,rfl⟩|⟨e,hm⟩
  ·rw[Mx,cN (by rw[h.ql];exact F1)];congr 2;refine(nD λj hj=>(si j λe=> ?_).2.2).symm;subst e;rcases oH.1 hj with hj|hj
   ·exact k1 hj
   ·exact k2 hj
  ·rw[Mx,hU (λc=>e c.symm),h.q m l' hm];congr 2;refine(nD λj hj=>(si j λe2=> ?_).2.2).symm;subst e2;exact e (h.one hm hl hj hkm)
 ·intro m l' hm;rcases mI hm with⟨rfl,rfl⟩|⟨e,hm⟩
  ·exact MO
  ·refine uN (λj hj=>Jf j ?_ ?_ ?_) (h.sg m l' hm)
   ·exactλc=>e (h.one hm hl hj (za _ c))
   ·exactλc=>e (h.one hm hl hj (Af _ (jj _ c)))
   ·rintro rfl;exact e (h.one hm hl hj hkm)
 ·intro m l' hm;rcases mI hm with⟨rfl,rfl⟩|⟨e,hm⟩
  ·refine AB.2 ⟨hd.1,AJ.2,λi hi j hj=>hd.2.2 i hi j (jj _ hj)⟩
  ·exact h.nd m l' hm
 ·intro j s' hj hu;have SB:j≠k:=by
   rintro rfl;rw[B0]at hj;cases hj;cases hu
  have hu2:(a.fg j).used=ar:=by rw[<- (si j SB).2.1,x5 hj];exact hu
  have Fh:j<a.du.length:=by
   have:=(jk.1 hj).1;rw[hS,qj]at this;omega
  obtain⟨s0,Ye⟩:=zZ Fh;rw[x5 Ye]at hu2;obtain⟨m,l',hm,SA⟩:=h.us j s0 Ye hu2;by_cases em:m=n
  ·subst em;rw[hl]at hm;cases hm;refine⟨m,_,cN F1,?_⟩;rcases oH.1 SA with hj|hj
   ·exact za _ hj
   ·rcases j'.1 hj with e|hj
    ·exact absurd e SB
    ·exact Af _ hj
  ·exact⟨m,l',by rw[hU (λc=>em c.symm)];exact hm,SA⟩
 ·have Mq:(a.iN k).du.map (·.used)=(a.du.set k iK).map (·.used):=by
   have e1:Dx.map (·.used)=a.du.map (·.used):=by
    have f2:Dx.map (·.used)=AF.map (·.used):=by
     rw[zt];split
     ·rfl
     ·exact Oa (g:=λs:Slot=>s.used) (f:=λs:Slot=>{s with ahead:=jU l1 (-1)}) (λ_=>rfl) _ _
    have f1:AF.map (·.used)=a.du.map (·.used):=by
     rw[zu];split
     ·rfl
     ·exact Oa (g:=λs:Slot=>s.used) (f:=λs:Slot=>{s with back:=uQ l2 (-1)}) (λ_=>rfl) _ _
    rw[f2,f1]
   rw[hS,am,e1,am]
  have:=zVm (x:=iK) um;rw[hs.used,fh rfl,show iK.used=au from rfl,eg (by decide)]at this;rw[Mq,hF,ve];omega
def dv.Wf.take {a:dv} {Q:Q_ Nat} (h:a.Wf Q) {n k:Nat} {l:List Nat} (hl:Q[n]? =az l) (hk:k∈l) {q:Int} (hq:1<=q/\q<=(a.fg k).dr):
 (a.gw k q).2=0/\(∀j,j≠k->((a.gw k q).1.fg j).qd=(a.fg j).qd/\((a.gw k q).1.fg j).used=(a.fg j).used)/\
   (if(a.fg k).dr=q then(a.gw k q).1.Wf (Q.set n (l.erase k))/\(a.gw k q).1.fg k=iK/\(a.gw k q).1.free=a.free+1
    else(a.gw k q).1.Wf Q/\(a.gw k q).1.fg k={a.fg k with dr:=(a.fg k).dr-q}/\(a.gw k q).1.free=a.free):=by
 obtain⟨o5,⟨p,t,hs⟩,AH⟩:=h.toze.mem hl hk;have pg:k<a.du.length:=by rw[h.len];exact o5
 have hu:a.iz k=ar:=by
  simp only[dv.iz,lu,ua];refine⟨oM,oM,?_⟩;rw[ov];exact hs.used
 have K8:=h.toze.less hl hk (q:=q) oM;have tf:=PN a k q;rw[dv.gw,eg (by rw[hu];decide),ov,eg X_];by_cases e:(a.fg k).dr=q
 ·rw[fh e,fh e];obtain⟨l1,l2,rfl⟩:=List.append_of_mem hk;have rj:=h.nd n _ hl;have hd:=AB.1 rj;have k1:k∉l1:=λhk=>hd.2.2 k hk k iY rfl
  obtain⟨d1,d2,d3,d4⟩:=K8.drop hl (by rw[tf k pg,fh rfl];dsimp only;omega);have ee:(l1++k::l2).erase k=l1++l2:=by rw[List.erase_append_right _ k1,List.erase_cons_head]
  refine⟨rfl,λj hj=> ?_,?_,d3,d4⟩
  ·have:=d2 j hj;rw[tf j pg,eg hj]at this;exact⟨this.1,this.2.1⟩
  ·rw[ee];refine⟨d1,λm l' hm j hj=> ?_⟩;have Ia:j≠k/\∃X6,Q[m]? =az X6/\j∈X6:=by
    have AJ:=yz.1 hd.2.1;rcases mI hm with⟨rfl,rfl⟩|⟨e3,hm⟩
    ·refine⟨?_,_,hl,?_⟩
     ·rintro rfl;rcases oH.1 hj with hj|hj
      ·exact k1 hj
      ·exact AJ.1 hj
     ·rcases oH.1 hj with hj|hj
      ·exact za _ hj
      ·exact Af _ (jj _ hj)
    ·refine⟨?_,_,hm,hj⟩;rintro rfl;exact e3 (h.toze.one hm hl hj hk)
   obtain⟨hj3,X6,hm2,hj4⟩:=Ia;have:=(d2 j hj3).2.2;rw[tf j pg,eg hj3]at this;dsimp only;rw[this];exact h.pos m X6 hm2 j hj4
 ·rw[eg e,eg e];refine⟨rfl,λj hj=> ?_,⟨K8,λm l' hm j hj=> ?_⟩,?_,rfl⟩
  ·dsimp only;rw[tf j pg,eg hj];exact⟨rfl,rfl⟩
  ·dsimp only;rw[tf j pg];split
   ·rename_i c;subst c;dsimp only;omega
   ·exact h.pos m l' hm j hj
  ·dsimp only;rw[tf k pg,fh rfl]
def xM {α β:Type} {f g:α->List β}:∀{l:List α},(∀x∈l,f x=g x)->l.flatMap f=l.flatMap g
 |[],_=>rfl
 |x::l,h=>by rw[vw,vw,h x iY,xM λy hy=>h y (jj _ hy)]
def JS {α β γ:Type} {f:α->List β} {g:β->γ}:∀(l:List α),(l.flatMap f).map g=l.flatMap λx=>(f x).map g
 |[]=>rfl
 |x::l=>by rw[vw,vw,jh,JS l]
def z9n {α β:Type} {f:α->List β}:∀{l:List α},(∀x∈l,f x≠[])->l.length<=(l.flatMap f).length
 |[],_=>jx 0
 |x::l,h=>by
  have:=z9n (l:=l) λy hy=>h y (jj _ hy)
  have:=List.length_pos_iff.2 (h x iY);rw[vw,ix,iG];omega
def zLn {α:Type} [DecidableEq α]:∀{l m:List α},l.Nodup->(∀x∈l,x∈m)->l.length<=m.length
 |[],_,_,_=>ml _
 |x::l,m,h,hs=>by
  have hd:=yz.1 h;have hx:=hs x iY;have:=zLn (l:=l) (m:=m.erase x) hd.2 λy hy=>by
   have jy:y≠x:=by rintro rfl;exact hd.1 hy
   exact(List.mem_erase_of_ne jy).2 (hs y (jj _ hy))
  rw[ak hx]at this;have:=List.length_pos_of_mem hx;rw[iG];omega
def yJq {l:List Int} (h:l.Nodup) (hr:∀x∈l,0<=x/\x<l.length) {n:Nat} (hn:n<l.length):(n:Int)∈l:=by
 apply Classical.byContradiction;intro hx;have rj:((n:Int)::l).Nodup:=yz.2 ⟨hx,h⟩;have:=zLn (m:=(ap l.length).map λk:Nat=>(k:Int)) rj λy hy=>by
  rw[nn];rcases j'.1 hy with rfl|hy
  ·exact⟨n,CJ.2 hn,rfl⟩
  ·have:=hr y hy;exact⟨y.toNat,CJ.2 oM,oM⟩
 simp at this;omega
def UT {α β:Type} {l:List (α×β)} (h:(l.map (·.1)).Nodup) {k:α} {x y:β} (hx:(k,x)∈l) (hy:(k,y)∈l):x=y:=by
 induction l with
 |nil=>cases hx
 |cons p l ih=>
  rw[jg,yz]at h;rcases j'.1 hx with ex|hx<;>rcases j'.1 hy with ey|hy
  ·rw[<- ex]at ey;exact(Prod.mk.inj ey).2.symm
  ·exact absurd (sv (f:=(·.1)) hy) (by rw[<- ex]at h;exact h.1)
  ·exact absurd (sv (f:=(·.1)) hx) (by rw[<- ey]at h;exact h.1)
  ·exact ih h.2 hx hy
def P':∀{l:List (Int×Place)} {k:Int} {x:Place},lh l k=az x->(k,x)∈l
 |[],k,x,h=>by cases h
 |p::l,k,x,h=>by
  rw[lh,L9]at h;by_cases e:p.1=k
  ·rw[jt e]at h;simp only[wz,Option.some.injEq]at h;subst h;subst e;exact iY
  ·rw[ju e]at h;exact jj _ (P' h)
def zLe {l:List (Int×Place)} {k:Int} (h:lh l k=ba):k∉l.map (·.1):=by
 intro hk;obtain⟨⟨k',x⟩,hx,rfl⟩:=nn.1 hk;rw[lh,Option.map_eq_none_iff,ae]at h;have:=h _ hx;simp at this
def z6v:∀{l:List (Int×Place)} {k:Int} {x:Place},k∉l.map (·.1)->lV k x l=l++[(k,x)]
 |[],k,x,_=>rfl
 |p::l,k,x,h=>by
  rw[jg,j',not_or]at h;rw[lV,eg h.1,z6v h.2];rfl
def xL (Q:Q_ Nat) (r:xX):List Nat:=Q.getD r.queue.toNat []
def yQh (s p:Int) (e:Ex):zK:=⟨e.id,s,p,e.dr,e.top⟩
def uE (a:dv) (s p:Int) (k:Nat):zK:=yQh s p (a.fg k).qd
def dq.ig (b:dq) (Q:Q_ Nat) (s:Int) (r:xX):List zK:=(xL Q r).map (uE b.a s r.dm)
def dq.iv (b:dq) (Q:Q_ Nat) (s:Int):List zK:=(b.dz s).flatMap (b.ig Q s)
def dq.flat (b:dq) (Q:Q_ Nat):List zK:=b.iv Q 1++b.iv Q 2
def uS (a:dv) (s p:Int) (k:Nat):Int×Place:=((a.fg k).id,⟨s,p,k⟩)
def dq.mr (b:dq) (Q:Q_ Nat) (s:Int):List (Int×Place):=(b.dz s).flatMap λr=>(xL Q r).map (uS b.a s r.dm)
def dq.qs (b:dq):List Int:=b.fv.map (·.queue)++b.fc.map (·.queue)++b.spare
structure dq.Core (b:dq) (Q:Q_ Nat) (hole:Int):Prop where
 wf:b.a.Wf Q
 xw:∀s,s=1\/s=2->(b.dz s).Pairwise λr r'=>jo s r.dm r'.dm=ar
 uw:∀q∈b.qs,0<=q/\q<Q.length
 nd:b.qs.Nodup
 ql:b.qs.length=Q.length
 ne:∀s,s=1\/s=2->∀r∈b.dz s,r.queue≠hole->xL Q r≠[]
 sp:∀q∈b.spare,Q.getD q.toNat []=[]
 at_:b.at_.Perm (b.mr Q 1++b.mr Q 2)
 ids:((b.flat Q).map (·.id)).Nodup
 qb:Q.length<=250
structure dq.BX (b:dq) (L:List zK):Prop where
 fl:∀o∈L,o.top=(b.nf o.side && decide (o.id=b.jc o.side))
 th:∀s,s=1\/s=2->b.nf s=ar->∃o∈L,o.side=s/\o.id=b.jc s
structure dq.ga (b:dq) (L:List zK):Prop where
 ex:∃Q,b.Core Q (-1)/\b.BX L/\L=b.flat Q
def pB (b:dq) (Q:Q_ Nat) (s:Int):(b.mr Q s).map (·.1)=(b.iv Q s).map (·.id):=by
 rw[dq.mr,dq.iv,JS,JS];refine xM λr _=> ?_
 rw[dq.ig,wx,wx];rfl
def dq.Core.Ao {b:dq} {Q:Q_ Nat} {h:Int} (c:b.Core Q h):(b.at_.map (·.1)).Perm ((b.flat Q).map (·.id)):=by
 have:=c.at_.map (·.1)
 rw[jh,pB,pB,<- jh]at this;exact this
def dq.Core.keys {b:dq} {Q:Q_ Nat} {h:Int} (c:b.Core Q h):(b.at_.map (·.1)).Nodup:=c.Ao.nodup_iff.2 c.ids
def dq.Core.len {b:dq} {Q:Q_ Nat} {h:Int} (c:b.Core Q h):b.at_.length=(b.flat Q).length:=by
 have:=c.Ao.length_eq;simpa using this
def dq.Core.FT {b:dq} {Q:Q_ Nat} {h:Int} (c:b.Core Q h) {s:Int} (hs:s=1\/s=2) {r:xX} (hr:r∈b.dz s) {k:Nat} (hk:k∈xL Q r):((b.a.fg k).id,(⟨s,r.dm,k⟩:Place))∈b.at_:=by
 refine c.at_.mem_iff.2 ?_;have hp:uS b.a s r.dm k∈b.mr Q s:=Bf.2 ⟨r,hr,sv hk⟩;rcases hs with rfl|rfl
 ·exact za _ hp
 ·exact Af _ hp
def dq.Core.Ti {b:dq} {Q:Q_ Nat} {h:Int} (c:b.Core Q h) {id:Int} {x:Place} (hx:(id,x)∈b.at_):∃(k:Nat) (r:xX),(x.side=1\/x.side=2)/\r∈b.dz x.side/\k∈xL Q r/\x=⟨x.side,r.dm,k⟩/\(b.a.fg k).id=id:=by
 have:=c.at_.mem_iff.1 hx;rcases oH.1 this with hp|hp
 all_goals
  obtain⟨r,hr,hp⟩:=Bf.1 hp;obtain⟨k,hk,e⟩:=nn.1 hp;simp only[uS,Prod.mk.injEq]at e;obtain⟨e1,rfl⟩:=e;exact⟨k,r,by simp,hr,hk,rfl,e1⟩
def z6d {Q:Q_ Nat} {r:xX} (h:0<=r.queue/\r.queue<Q.length):Q[r.queue.toNat]? =az (xL Q r):=by
 obtain⟨l,hl⟩:=zZ (l:=Q) (i:=r.queue.toNat) oM;rw[xL,zX hl,hl]
def g7 {b:dq} {s:Int} (hs:s=1\/s=2) {r:xX} (hr:r∈b.dz s):r.queue∈b.qs:=by
 rcases hs with rfl|rfl
 ·exact za _ (za _ (sv (f:=(·.queue)) hr))
 ·exact za _ (Af _ (sv (f:=(·.queue)) hr))
def dq.Core.get {b:dq} {Q:Q_ Nat} {h:Int} (c:b.Core Q h) {s:Int} (hs:s=1\/s=2) {r:xX} (hr:r∈b.dz s):Q[r.queue.toNat]? =az (xL Q r):=z6d (c.uw _ (g7 hs hr))
def DI (L:List zK) (s:Int):List zK:=L.map λo=>if o.side=s then{o with top:=au}else o
def N6 (s x:Int):jo s x x=au:=by
 rw[jo];split<;>exact ju oM
def dq.Core.flag {b:dq} {Q:Q_ Nat} {h:Int} (c:b.Core Q h) {a':dv} (hw:a'.Wf Q) (hi:∀k,(a'.fg k).id=(b.a.fg k).id):({b with a:=a'}:dq).Core Q h:=by
 have e1:∀s,({b with a:=a'}:dq).mr Q s=b.mr Q s:=by
  intro s;refine xM λr _=>uk λk _=> ?_
  simp only[uS,hi]
 have e2:((({b with a:=a'}:dq).flat Q).map (·.id))=(b.flat Q).map (·.id):=by
  rw[dq.flat,dq.flat,jh,jh,<- pB,<- pB,<- pB,<- pB,e1,e1]
 exact⟨hw,c.xw,c.uw,c.nd,c.ql,c.ne,c.sp,by rw[e1,e1];exact c.at_,by rw[e2];exact c.ids,c.qb⟩
def yWy (a:dv) (n:Int) (t:Bool) (k:Nat):((a.mq n t).fg k).id=(a.fg k).id:=by
 rw[z2e];split<;>rfl
def dq.Core.iX {b:dq} {Q:Q_ Nat} {h:Int} (c:b.Core Q h) (s:Int):(b.iX s).Wf Q/\∀k,((b.iX s).fg k).id=(b.a.fg k).id:=by
 rw[dq.iX]
 repeat' split
 all_goals first|exact⟨c.wf,λ_=>rfl⟩|exact⟨c.wf.top _ _,λk=>yWy _ _ _ k⟩
def dq.Core.Df {b:dq} {Q:Q_ Nat} {h:Int} (c:b.Core Q h) (ht:b.BX (b.flat Q)) {s:Int} (hs:s=1\/s=2):({b with a:=b.iX s}:dq).flat Q=DI (b.flat Q) s:=by
 have BI:∀{s':Int} (iQ:s'=1\/s'=2) {r:xX} (hr:r∈b.dz s') {k:Nat} (hk:k∈xL Q r),(b.a.fg k).top=(b.nf s' && decide ((b.a.fg k).id=b.jc s')):=by
  intro s' iQ r hr k hk;have hm:uE b.a s' r.dm k∈b.flat Q:=by
   have:uE b.a s' r.dm k∈b.iv Q s':=Bf.2 ⟨r,hr,sv hk⟩;rcases iQ with rfl|rfl
   ·exact za _ this
   ·exact Af _ this
  exact ht.fl _ hm
 have key:∀{s':Int} (iQ:s'=1\/s'=2) {r:xX} (hr:r∈b.dz s') {k:Nat} (hk:k∈xL Q r),((b.iX s).fg k).qd=if s'=s then{(b.a.fg k).qd with top:=au}else(b.a.fg k).qd:=by
  intro s' iQ r hr k hk;have zx:=c.FT iQ hr hk;have Jc:=BI iQ hr hk;have Bl:(b.a.fg k).top=au->(b.a.fg k).qd=if s'=s then{(b.a.fg k).qd with top:=au}else(b.a.fg k).qd:=by
   intro e;split
   ·rw[Slot.qd,e]
   ·rfl
  rw[dq.iX];by_cases hh:b.nf s=ar
  ·rw[fh hh];cases hg:lh b.at_ (b.jc s)with
   |none=>
    dsimp only;by_cases e:s'=s
    ·subst e;refine Bl ?_;rw[Jc,hh,AA];refine ju λe2=> ?_
     rw[<- e2]at hg;exact zLe hg (sv (f:=(·.1)) zx)
    ·rw[eg e]
   |some o=>
    dsimp only;obtain⟨k',r',zd,xz,o5,ho,Bn⟩:=c.Ti (P' hg);by_cases es:o.side=s
    ·rw[fh es,z2e];have CS:o.slot=(k':Int):=by rw[ho]
     by_cases ek:k=k'
     ·subst ek;have hu:b.a.iz o.slot=ar:=by
       obtain⟨_,⟨_,_,h2⟩,h3⟩:=c.wf.toze.mem (c.get iQ hr) hk;have gr:=(jk.1 h3).1;simp only[dv.iz,lu,ua,CS,ov];exact⟨oM,oM,h2.used⟩
      rw[fh ⟨hu,by rw[CS];rfl⟩];have:=c.FT zd xz o5;have e3:=UT c.keys zx this;have e4:s'=s:=by
       have:=congrArg Place.side e3;dsimp only at this;rw[this,es]
      rw[fh e4];rfl
     ·rw[eg (λe=>ek (by have:=e.2;rw[CS]at this;simpa using this))];by_cases e:s'=s
      ·subst e;refine Bl ?_;rw[Jc,hh,AA];refine ju λe2=>ek ?_
       have Kn:=c.FT zd xz o5;rw[Bn,<- e2]at Kn;have e3:=UT c.keys zx Kn;have:=congrArg Place.slot e3;dsimp only at this;omega
      ·rw[eg e]
    ·rw[eg es];by_cases e:s'=s
     ·subst e;refine Bl ?_;rw[Jc,hh,AA];refine ju λe2=>es ?_
      have Kn:=P' hg;rw[<- e2]at Kn;have e3:=UT c.keys zx Kn;rw[<- e3]
     ·rw[eg e]
  ·rw[eg hh];by_cases e:s'=s
   ·subst e;refine Bl ?_;have:b.nf s'=au:=i9 hh
    rw[Jc,this,Dr]
   ·rw[eg e]
 have side:∀s',s'=1\/s'=2->({b with a:=b.iX s}:dq).iv Q s'=DI (b.iv Q s') s:=by
  intro s' iQ;rw[DI,dq.iv,dq.iv,JS];refine xM λr hr=> ?_
  rw[dq.ig,dq.ig,wx];refine uk λk hk=> ?_
  simp only[uE,cm,key iQ hr hk,yQh];by_cases e:s'=s
  ·rw[fh e];exact(fh e).symm
  ·rw[eg e];exact(eg e).symm
 rw[dq.flat,side 1 (.inl rfl),side 2 (.inr rfl),dq.flat,DI,DI,DI,jh]
def before (s p:Int) (o:zK):Bool:=decide (o.side<s)||(decide (o.side=s) && !jo s p o.dm)
def fU (L:List zK) (s p:Int):Bool:=L.all λo=> !decide (o.side=s)||jo s p o.dm
def Iw (L:List zK) (s id p q:Int):List zK:=
 let L1:=if fU L s p=ar then DI L s else L
 L1.takeWhile (before s p)++⟨id,s,p,q,fU L s p⟩::L1.dropWhile (before s p)
def yOj {α:Type} {f:α->Bool}:∀{A B:List α},(∀x∈A,f x=ar)->(∀x∈B,f x=au)->(A++B).takeWhile f=A/\(A++B).dropWhile f=B
 |[],[],_,_=>⟨rfl,rfl⟩
 |[],b::B,_,h=>by
  have:=h b iY;simp[this]
 |a::A,B,h,h2=>by
  obtain⟨i1,i2⟩:=yOj (A:=A) (B:=B) (λx hx=>h x (jj _ hx)) h2;have:=h a iY;rw[uu,List.takeWhile_cons,List.dropWhile_cons,this];simp[i1,i2]
def qZ {b:dq} {Q:Q_ Nat} {s:Int} {r:xX} {o:zK} (h:o∈b.ig Q s r):o.side=s/\o.dm=r.dm:=by
 obtain⟨k,_,rfl⟩:=nn.1 h;exact⟨rfl,rfl⟩
def pO {b:dq} {Q:Q_ Nat} {s:Int} {o:zK} (h:o∈b.iv Q s):o.side=s/\∃r∈b.dz s,o∈b.ig Q s r/\o.dm=r.dm:=by
 obtain⟨r,hr,ho⟩:=Bf.1 h;exact⟨(qZ ho).1,r,hr,ho,(qZ ho).2⟩
structure Spl (s p:Int) (R1 R2:List xX):Prop where
 a:∀r∈R1,jo s r.dm p=ar
 b:∀r∈R2,jo s p r.dm=ar
def z5r {s x y:Int} (h:jo s x y=ar):jo s y x=au:=by
 rw[jo]at h ⊢;split at h
 ·rename_i e;rw[fh e];have:=su h;exact ju oM
 ·rename_i e;rw[eg e];have:=su h;exact ju oM
def zYm {s x y z:Int} (h:jo s x y=ar) (h2:jo s y z=ar):jo s x z=ar:=by
 rw[jo]at h h2 ⊢;split at h
 ·rename_i e;rw[fh e]at h2 ⊢;have:=su h;have:=su h2;exact jt oM
 ·rename_i e;rw[eg e]at h2 ⊢;have:=su h;have:=su h2;exact jt oM
def yKe {s x y:Int} (h:jo s x y=au) (jy:x≠y):jo s y x=ar:=by
 rw[jo]at h ⊢;split at h
 ·rename_i e;rw[fh e];have:=Mg h;exact jt oM
 ·rename_i e;rw[eg e];have:=Mg h;exact jt oM
def zHl {s p:Int} {l:List xX} (hs:l.Pairwise λr r'=>jo s r.dm r'.dm=ar):
 (∀r∈l.take (yB s l p),jo s r.dm p=ar)/\
 (if jT s l p=ar then ∃r,l[yB s l p]? =az r/\r.dm=p/\∀r'∈l.drop (yB s l p+1),jo s p r'.dm=ar
  else ∀r'∈l.drop (yB s l p),jo s p r'.dm=ar):=by
 have e1:l.take (yB s l p)=l.takeWhile λr=>jo s r.dm p:=by
  rw[yB];have h:=J8 (l₁:=l.takeWhile λr=>jo s r.dm p) (l₂:=l.dropWhile λr=>jo s r.dm p);rwa [xRq]at h
 have e2:l.drop (yB s l p)=l.dropWhile λr=>jo s r.dm p:=by
  have h:=Bi (yB s l p) l;have h2:=xRq (p:=λr:xX=>jo s r.dm p) (l:=l);rw[e1]at h;exact List.append_cancel_left (h.trans h2.symm)
 refine⟨λr hr=> ?_,?_⟩
 ·rw[e1]at hr;exact Ej.1 List.all_takeWhile r hr
 have hd:∀r,l[yB s l p]? =az r->jo s r.dm p=au:=by
  intro r hr;have h0:(l.drop (yB s l p))[0]? =az r:=by rw[BA];exact hr
  rw[e2]at h0;cases hdw:l.dropWhile λr=>jo s r.dm p with
  |nil=>rw[hdw]at h0;cases h0
  |cons x y=>
   rw[hdw]at h0;cases h0;have:=List.head?_dropWhile_not (λr:xX=>jo s r.dm p) l;rw[hdw]at this;simpa using this
 have hpw:∀r r',l[yB s l p]? =az r->r'∈l.drop (yB s l p+1)->jo s r.dm r'.dm=ar:=by
  intro r r' hr oy;have gr:=(jk.1 hr).1;have:=List.Pairwise.sublist (List.drop_sublist (yB s l p) l) hs;rw[CN gr,zg,(jk.1 hr).2]at this;exact this.1 r' oy
 split
 ·rename_i hb;rw[jT]at hb;cases hr:l[yB s l p]? with
  |none=>rw[hr]at hb;cases hb
  |some r=>
   rw[hr]at hb;have hp:r.dm=p:=su hb;exact⟨r,rfl,hp,λr' oy=>by rw[<- hp];exact hpw r r' hr oy⟩
 ·rename_i hb;intro r' oy;by_cases gr:yB s l p<l.length
  ·obtain⟨r,hr⟩:=zZ gr;rw[jT,hr]at hb;have hp:¬r.dm=p:=λe=>hb (jt e)
   have h1:=yKe (hd r hr) hp;rw[CN gr,(jk.1 hr).2]at oy;rcases j'.1 oy with rfl|oy
   ·exact h1
   ·exact zYm h1 (hpw r r' hr oy)
  ·rw[IK X_]at oy;cases oy
def dq.rl (b:dq) (s:Int) (l:List xX):dq:=if s=1 then{b with fv:=l}else{b with fc:=l}
def yEl {b:dq} {s:Int} (hs:s=1\/s=2):∃rest,b.qs.Perm ((b.dz s).map (·.queue)++rest)/\∀l,(b.rl s l).qs.Perm (l.map (·.queue)++rest):=by
 rcases hs with rfl|rfl
 ·refine⟨b.fc.map (·.queue)++b.spare,?_,λl=> ?_⟩
  ·rw[dq.qs,jd];exact .refl _
  ·show(l.map (·.queue)++b.fc.map (·.queue)++b.spare).Perm _
   rw[jd]
 ·refine⟨b.fv.map (·.queue)++b.spare,?_,λl=> ?_⟩
  ·rw[dq.qs];show(b.fv.map (·.queue)++b.fc.map (·.queue)++b.spare).Perm (b.fc.map (·.queue)++(b.fv.map (·.queue)++b.spare))
   rw[<- jd];exact BC.append_right _
  ·show(b.fv.map (·.queue)++l.map (·.queue)++b.spare).Perm (l.map (·.queue)++(b.fv.map (·.queue)++b.spare))
   rw[<- jd];exact BC.append_right _
structure A1 (b:dq) (Q:Q_ Nat) (s p:Int) (b':dq) (n:Int) (Q':Q_ Nat) (R1 R2:List xX):Prop where
 core:b'.Core Q' n
 dz:b'.dz s=R1++⟨p,n⟩::R2
 lg:Spl s p R1 R2
 flat:b'.flat Q'=b.flat Q
 at_:b'.at_=b.at_
 free:b'.a.free=b.a.free
 fm:∀L,b.BX L->b'.BX L
 dr:∀x,b'.nf x=b.nf x/\b'.jc x=b.jc x
def ySp {α:Type} {l:List α} {x d:α} {n:Nat}:(l++[x]).getD n d=if n=l.length then x else l.getD n d:=by
 rw[mz,mz,List.getElem?_append];split
 ·rw[eg X_]
 ·rename_i h;by_cases e:n=l.length
  ·rw[fh e,e,J6];rfl
  ·rw[eg e,uv (show([x]:List α).length<=n-l.length by simp;omega),uv X_]
def dq.Core.add {b:dq} {Q:Q_ Nat} (c:b.Core Q (-1)) {s p n:Int} (hs:s=1\/s=2) {R1 R2:List xX} (hr:b.dz s=R1++R2) (lg:Spl s p R1 R2) {b':dq} {Q':Q_ Nat}
 (Yf:b'.dz s=R1++⟨p,n⟩::R2) (FX:∀s',s'≠s->s'=1\/s'=2->b'.dz s'=b.dz s') (tf:b'.at_=b.at_) (hw:b'.a.Wf Q') (zc:b'.a.du=b.a.du)
 (hQ:∀k,Q'.getD k []=Q.getD k []) (hn:Q.getD n.toNat []=[]) (aaC:∀q∈b'.qs,0<=q/\q<Q'.length) (rj:b'.qs.Nodup) (IV:b'.qs.length=Q'.length) (ue:∀q∈b'.spare,Q.getD q.toNat []=[]) (Sn:Q'.length<=250):
 b'.Core Q' n/\b'.flat Q'=b.flat Q:=by
 have MN:∀r,xL Q' r=xL Q r:=λr=>hQ _
 have hsa:∀k,b'.a.fg k=b.a.fg k:=λk=>by rw[dv.fg,dv.fg,zc]
 have Ym:xL Q ⟨p,n⟩=[]:=hn;have Je:∀s' r,b'.ig Q' s' r=b.ig Q s' r:=by
  intro s' r;rw[dq.ig,dq.ig,MN];exact uk λk _=>by rw[uE,uE,hsa]
 have Yh:∀s' (r:xX),(xL Q' r).map (uS b'.a s' r.dm)=(xL Q r).map (uS b.a s' r.dm):=by
  intro s' r;rw[MN];exact uk λk _=>by rw[uS,uS,hsa]
 have o7:∀s',s'=1\/s'=2->b'.iv Q' s'=b.iv Q s':=by
  intro s' iQ;rw[dq.iv,dq.iv];by_cases e:s'=s
  ·subst e;rw[Yf,hr,zh,zh,vw,xM (λr _=>Je s' r),xM (l:=R2) (λr _=>Je s' r),Je,dq.ig,Ym,Bz,wy]
  ·rw[FX s' e iQ];exact xM λr _=>Je s' r
 have zx:∀s',s'=1\/s'=2->b'.mr Q' s'=b.mr Q s':=by
  intro s' iQ;rw[dq.mr,dq.mr];by_cases e:s'=s
  ·subst e;rw[Yf,hr,zh,zh,vw,xM (λr _=>Yh s' r),xM (l:=R2) (λr _=>Yh s' r),Yh,Ym,Bz,wy]
  ·rw[FX s' e iQ];exact xM λr _=>Yh s' r
 have sm:b'.flat Q'=b.flat Q:=by rw[dq.flat,dq.flat,o7 1 (.inl rfl),o7 2 (.inr rfl)]
 refine⟨⟨hw,λs' iQ=> ?_,aaC,rj,IV,λs' iQ r oy jy=> ?_,λq hq=>by rw[hQ];exact ue q hq,by rw[tf,zx 1 (.inl rfl),zx 2 (.inr rfl)];exact c.at_,by rw[sm];exact c.ids,Sn⟩,sm⟩
 ·by_cases e:s'=s
  ·subst e;have h0:=c.xw s' iQ;rw[hr,ac]at h0;rw[Yf,ac,zg];refine⟨h0.1,⟨lg.b,h0.2.1⟩,λx hx y hy=> ?_⟩;rcases j'.1 hy with rfl|hy
   ·exact lg.a x hx
   ·exact h0.2.2 x hx y hy
  ·rw[FX s' e iQ];exact c.xw s' iQ
 ·rw[MN];have hold:∀r∈b.dz s',xL Q r≠[]:=λr hr=>c.ne s' iQ r hr λe=>by
   have:=c.uw _ (g7 iQ hr);omega
  by_cases e:s'=s
  ·subst e;rw[Yf]at oy;rcases oH.1 oy with h|h
   ·exact hold r (by rw[hr];exact za _ h)
   ·rcases j'.1 h with rfl|h
    ·exact absurd rfl jy
    ·exact hold r (by rw[hr];exact Af _ h)
  ·rw[FX s' e iQ]at oy;exact hold r oy
def zVc (b:dq) {s:Int} (hs:s=1\/s=2) (l:List xX):(b.rl s l).dz s=l/\∀s',s'≠s->s'=1\/s'=2->(b.rl s l).dz s'=b.dz s':=by
 rcases hs with rfl|rfl
 ·exact⟨rfl,λs' h h2=>by rcases h2 with rfl|rfl;exact absurd rfl h;rfl⟩
 ·exact⟨rfl,λs' h h2=>by rcases h2 with rfl|rfl;rfl;exact absurd rfl h⟩
def yMi (b:dq) {s p:Int} (hs:s=1\/s=2):b.gf s p=if jT s (b.dz s) p=ar then(b,((b.dz s).getD (yB s (b.dz s) p) ⟨0,0⟩).queue)else(({b with a:=b.iU.2.2,spare:=b.iU.2.1}:dq).rl s (b.ins s p),b.iU.1):=by
 rcases hs with rfl|rfl<;>rfl
def dq.Core.queue {b:dq} {Q:Q_ Nat} (c:b.Core Q (-1)) (hl:(b.flat Q).length<250) {s:Int} (hs:s=1\/s=2) (p:Int):∃Q' R1 R2,A1 b Q s p (b.gf s p).1 (b.gf s p).2 Q' R1 R2:=by
 have ue:=zHl (p:=p) (c.xw s hs);rw[yMi b hs];by_cases hb:jT s (b.dz s) p=ar
 ·rw[fh hb]at ue ⊢;obtain⟨h1,r,hr,hp,h2⟩:=ue;have gr:=(jk.1 hr).1;have er:(⟨p,r.queue⟩:xX)=r:=by rw[<- hp]
  have pd:b.dz s=(b.dz s).take (yB s (b.dz s) p)++r::(b.dz s).drop (yB s (b.dz s) p+1):=by
   conv=>lhs;rw[<- Bi (yB s (b.dz s) p) (b.dz s)]
   rw[CN gr,(jk.1 hr).2]
  refine⟨Q,_,_,⟨⟨c.wf,c.xw,c.uw,c.nd,c.ql,λs' iQ r' oy _=>c.ne s' iQ r' oy λe=> ?_,c.sp,c.at_,c.ids,c.qb⟩,?_,⟨h1,h2⟩,rfl,rfl,rfl,λ_ h=>h,λ_=>⟨rfl,rfl⟩⟩⟩
  ·have:=c.uw _ (g7 iQ oy);omega
  ·dsimp only;rw[zX hr,er];exact pd
 ·rw[eg hb]at ue ⊢;obtain⟨h1,h2⟩:=ue;have hr:b.dz s=(b.dz s).take (yB s (b.dz s) p)++(b.dz s).drop (yB s (b.dz s) p):=(Bi _ _).symm;obtain⟨g1,g2⟩:=zVc ({b with a:=b.iU.2.2,spare:=b.iU.2.1}:dq) hs (b.ins s p);have fm:∀x,((({b with a:=b.iU.2.2,spare:=b.iU.2.1}:dq).rl s (b.ins s p)).nf x=b.nf x/\(({b with a:=b.iU.2.2,spare:=b.iU.2.1}:dq).rl s (b.ins s p)).jc x=b.jc x):=by
   intro x;rcases hs with rfl|rfl<;>exact⟨rfl,rfl⟩
  have tf:(({b with a:=b.iU.2.2,spare:=b.iU.2.1}:dq).rl s (b.ins s p)).at_=b.at_:=by rcases hs with rfl|rfl<;>rfl
  have ha:(({b with a:=b.iU.2.2,spare:=b.iU.2.1}:dq).rl s (b.ins s p)).a=b.iU.2.2:=by rcases hs with rfl|rfl<;>rfl
  have Ty:(({b with a:=b.iU.2.2,spare:=b.iU.2.1}:dq).rl s (b.ins s p)).spare=b.iU.2.1:=by rcases hs with rfl|rfl<;>rfl
  obtain⟨rest,q1,q2⟩:=yEl (b:=({b with a:=b.iU.2.2,spare:=b.iU.2.1}:dq)) hs;have q2:=q2 (b.ins s p);have FY:(({b with a:=b.iU.2.2,spare:=b.iU.2.1}:dq).rl s (b.ins s p)).qs.Perm (b.iU.1::({b with a:=b.iU.2.2,spare:=b.iU.2.1}:dq).qs):=by
   refine q2.trans (.trans ?_ (q1.symm.cons _));rw[<- uu];refine co _ ?_;show((b.ins s p).map (·.queue)).Perm (b.iU.1::(b.dz s).map (·.queue))
   conv=>rhs;rw[hr]
   rw[dq.ins,jh,jh,jg];exact mu
  generalize hB:(({b with a:=b.iU.2.2,spare:=b.iU.2.1}:dq).rl s (b.ins s p))=B at*;have fin:∀Q',B.a.Wf Q'->B.a.du=b.a.du->B.a.free=b.a.free->(∀k,Q'.getD k []=Q.getD k [])->Q.getD b.iU.1.toNat []=[]->(∀q∈B.qs,0<=q/\q<Q'.length)->B.qs.Nodup->B.qs.length=Q'.length->(∀q∈B.spare,Q.getD q.toNat []=[])->Q'.length<=250->∃Q' R1 R2,A1 b Q s p B b.iU.1 Q' R1 R2:=by
   intro Q' w1 w2 w3 w4 w5 w6 w7 w8 w9 w10;obtain⟨u1,u2⟩:=c.add hs hr ⟨h1,h2⟩ (b':=B) (Q':=Q') (n:=b.iU.1) (by rw[g1];rfl) g2 tf w1 w2 w4 w5 w6 w7 w8 w9 w10;refine⟨Q',_,_,⟨u1,g1.trans rfl,⟨h1,h2⟩,u2,tf,w3,λL h=>⟨λo ho=> ?_,λs' iQ hh=> ?_⟩,fm⟩⟩
   ·rw[(fm o.side).1,(fm o.side).2];exact h.fl o ho
   ·rw[(fm s').1]at hh;rw[(fm s').2];exact h.th s' iQ hh
  by_cases he:b.spare.length=0
  ·have F0:b.iU=((b.a.dy.length:Int),b.spare,b.a.sc):=by rw[dq.iU,fh he]
   have IV:=c.wf.ql;have aaA:b.spare=[]:=ye he;have C3:B.qs.Perm ((Q.length:Int)::b.qs):=by
    rw[F0]at FY;rw[<- IV];exact FY
   refine fin (Q++[[]]) (by rw[ha,F0];exact c.wf.open) (by rw[ha,F0];rfl) (by rw[ha,F0];rfl) (λk=> ?_) ?_ (λq hq=> ?_) ?_ ?_ (λq hq=> ?_) ?_
   ·rw[ySp];split
    ·rename_i e;rw[e,mz,uv (jx _)];rfl
    ·rfl
   ·rw[F0,mz,uv V_];rfl
   ·rw[ix];rcases j'.1 (C3.mem_iff.1 hq)with rfl|hq
    ·simp only[Bh];omega
    ·have:=c.uw q hq;simp only[Bh];omega
   ·refine C3.nodup_iff.2 (yz.2 ⟨λhm=> ?_,c.nd⟩);have:=c.uw _ hm;omega
   ·rw[C3.length_eq,iG,ix,c.ql];rfl
   ·rw[Ty,F0]at hq;rw[aaA]at hq;cases hq
   ·have h1:=z9n (l:=b.dz 1) (f:=b.ig Q 1) λr hr e=>c.ne 1 (.inl rfl) r hr (λe2=>by have:=c.uw _ (g7 (.inl rfl) hr);omega) (List.map_eq_nil_iff.1 e)
    have h2:=z9n (l:=b.dz 2) (f:=b.ig Q 2) λr hr e=>c.ne 2 (.inr rfl) r hr (λe2=>by have:=c.uw _ (g7 (.inr rfl) hr);omega) (List.map_eq_nil_iff.1 e)
    have h3:=c.ql;rw[dq.flat,ix,dq.iv,dq.iv]at hl;rw[dq.qs,ix,ix,ib,ib,he]at h3;rw[eL]at h1 hl;rw[It]at h2 hl;rw[ix,Bh];omega
  ·have F0:b.iU=(b.spare.getD (b.spare.length-1) 0,b.spare.take (b.spare.length-1),b.a):=by rw[dq.iU,eg he]
   obtain⟨sp,q,Jd⟩:∃sp q,b.spare=sp++[q]:=⟨_,_,(List.dropLast_concat_getLast (l:=b.spare) (by intro e;rw[e]at he;exact he rfl)).symm⟩
   have e1:b.iU=(q,sp,b.a):=by
    rw[F0,Jd];simp
   have C3:B.qs.Perm b.qs:=by
    refine FY.trans ?_;rw[e1];show(q::(b.fv.map (·.queue)++b.fc.map (·.queue)++sp)).Perm (b.fv.map (·.queue)++b.fc.map (·.queue)++b.spare)
    rw[Jd,<- jd];exact RV q _|>.symm
   have hq0:q∈b.spare:=by rw[Jd];simp
   refine fin Q (by rw[ha,e1];exact c.wf) (by rw[ha,e1]) (by rw[ha,e1]) (λ_=>rfl) (by rw[e1];exact c.sp q hq0) (λq hq=>c.uw q (C3.mem_iff.1 hq)) (C3.nodup_iff.2 c.nd) (by rw[C3.length_eq];exact c.ql) (λq' Yg=> ?_) c.qb;rw[Ty,e1]at Yg;exact c.sp q' (by rw[Jd];exact za _ Yg)
def dq.Core.used {b:dq} {Q:Q_ Nat} (c:b.Core Q (-1)) (hl:(b.flat Q).length<250):b.a.free≠0:=by
 intro hf;have AK:=c.wf.free;rw[hf]at AK;have hz:(b.a.du.map (·.used)).countP (!·)=0:=X_
 rw[List.countP_eq_zero]at hz;have xd:∀k∈ap 250,k∈((b.dz 1).flatMap (xL Q)++(b.dz 2).flatMap (xL Q)):=by
  intro k hk;have hk:=CJ.1 hk;obtain⟨s,hs⟩:=zZ (l:=b.a.du) (i:=k) (by rw[c.wf.len];exact hk);have hu:s.used=ar:=by
   have:=hz s.used (sv (kx hs));simpa using this
  obtain⟨n,l,hn,pg⟩:=c.wf.us k s hs hu;have F1:=(jk.1 hn).1;have hm:(n:Int)∈b.qs:=yJq c.nd (λx hx=>by rw[c.ql];exact c.uw x hx) (by rw[c.ql];exact F1);have e:∀r:xX,r.queue=(n:Int)->k∈xL Q r:=by
   intro r hr;rw[xL,hr,ov,zX hn];exact pg
  rw[dq.qs]at hm;rcases oH.1 hm with hm|hm
  ·rcases oH.1 hm with hm|hm
   ·obtain⟨r,hr,er⟩:=nn.1 hm;exact za _ (Bf.2 ⟨r,hr,e r er⟩)
   ·obtain⟨r,hr,er⟩:=nn.1 hm;exact Af _ (Bf.2 ⟨r,hr,e r er⟩)
  ·have:=c.sp _ hm;rw[ov,zX hn]at this;rw[this]at pg;cases pg
 have h1:=zLn List.nodup_range xd;have e:∀s,(b.iv Q s).length=((b.dz s).flatMap (xL Q)).length:=by
  intro s;rw[dq.iv,OE,OE];congr 1;exact uk λr _=>by rw[dq.ig,ib]
 rw[ix,<- e,<- e,List.length_range]at h1;rw[dq.flat,ix]at hl;omega
def z3f {s p:Int} {o:zK} (h:o.side≠s) (gr:o.side=1\/o.side=2) (hs:s=1\/s=2):before s p o=decide (s=2):=by
 rw[before,ju h,Dr,Bool.or_false];rcases hs with rfl|rfl
 ·rw[ju X_,ju X_]
 ·rw[jt X_,jt rfl]
def A1.put {b:dq} {Q:Q_ Nat} {s p:Int} {b':dq} {n:Int} {Q':Q_ Nat} {R1 R2:List xX} (h:A1 b Q s p b' n Q' R1 R2) (hs:s=1\/s=2) {id dr:Int} (top:Bool) (Bn:id∉(b.flat Q).map (·.id)) (hf:b.a.free≠0) (hq:1<=dr/\dr<=1000000):
 ∃Q3 A B,({b' with a:=(b'.a.push n id dr top).1,at_:=lV id ⟨s,p,(b'.a.push n id dr top).2.1⟩ b'.at_}:dq).Core Q3 (-1)/\b'.flat Q'=A++B/\
  ({b' with a:=(b'.a.push n id dr top).1,at_:=lV id ⟨s,p,(b'.a.push n id dr top).2.1⟩ b'.at_}:dq).flat Q3=A++⟨id,s,p,dr,top⟩::B/\(∀o∈A,before s p o=ar)/\∀o∈B,before s p o=au:=by
 have c:=h.core;have HX:(⟨p,n⟩:xX)∈b'.dz s:=by rw[h.dz];simp
 have hnr:0<=n/\n<Q'.length:=c.uw n (g7 hs HX);obtain⟨m,rfl⟩:∃m:Nat,n=m:=⟨n.toNat,oM⟩
 have hl:Q'[m]? =az (xL Q' ⟨p,m⟩):=z6d (r:=⟨p,m⟩) hnr;obtain⟨k,k1,k2,k3,k4,kw,Ts,aa5⟩:=c.wf.put (id:=id) hl (by rw[h.free];exact hf) top hq;have Uo:b'.a.push m id dr top=(b'.a.put m id dr top,(k:Int),0):=by
  have:=c.wf.ql;rw[dv.push,eg X_,eg X_,eg (by rw[h.free];exact hf),k1]
 rw[Uo];dsimp only;have hmQ:=(jk.1 hl).1;have FZ:∀s' (r:xX),(s'=1\/s'=2)->r∈b'.dz s'->(r.queue=m->s'=s/\r=⟨p,m⟩):=by
  intro s' r iQ hr e;obtain⟨rest,q1,_⟩:=yEl (b:=b') hs;have rj:=q1.nodup_iff.1 c.nd;rw[h.dz,jh,jg]at rj;by_cases es:s'=s
  ·subst es;refine⟨rfl,?_⟩;rw[h.dz]at hr;have TB:=(AB.1 rj).1;rcases oH.1 hr with hr|hr
   ·exact absurd e ((AB.1 TB).2.2 r.queue (sv (f:=(·.queue)) hr) m iY)
   ·rcases j'.1 hr with rfl|hr
    ·rfl
    ·have:=(yz.1 (AB.1 TB).2.1).1;exact absurd (e▸sv (f:=(·.queue)) hr) this
  ·exfalso;have AK:=c.nd;rw[dq.qs]at AK;have TD:=(AB.1 (AB.1 AK).1).2.2;have ha:(m:Int)∈(b'.dz s).map (·.queue):=nn.2 ⟨_,HX,rfl⟩
   have hb:(m:Int)∈(b'.dz s').map (·.queue):=nn.2 ⟨r,hr,e⟩
   rcases hs with rfl|rfl<;>rcases iQ with rfl|rfl
   ·exact es rfl
   ·exact TD _ ha _ hb rfl
   ·exact TD _ hb _ ha rfl
   ·exact es rfl
 have zu:xL (Q'.set m (xL Q' ⟨p,m⟩++[k])) ⟨p,m⟩=xL Q' ⟨p,m⟩++[k]:=by
  show(Q'.set m _).getD (Int.toNat (m:Int)) []=_;rw[ov];exact zX (cN hmQ)
 have zt:∀q:Int,0<=q->q≠m->(Q'.set m (xL Q' ⟨p,m⟩++[k])).getD q.toNat []=Q'.getD q.toNat []:=by
  intro q h0 jy;rw[mz,hU X_,mz]
 generalize hQ3:Q'.set m (xL Q' ⟨p,m⟩++[k])=Q3 at*;have Kw:Q3.length=Q'.length:=by rw[<- hQ3,qj]
 have abc:=pB;have AU:∀s' (r:xX),(s'=1\/s'=2)->r∈b'.dz s'->∀j∈xL Q' r,j≠k/\(uE (b'.a.put m id dr top) s' r.dm j=uE b'.a s' r.dm j/\uS (b'.a.put m id dr top) s' r.dm j=uS b'.a s' r.dm j):=by
  intro s' r iQ hr j hj;have SB:j≠k:=by rintro rfl;exact k4 _ _ (c.get iQ hr) hj
  have:=Ts j;rw[eg SB]at this;refine⟨SB,by rw[uE,uE,this],?_⟩;have:=congrArg Ex.id this;rw[uS,uS];exact congrArg (λi=>(i,(⟨s',r.dm,j⟩:Place))) this
 have HY:∀s' (r:xX),(s'=1\/s'=2)->r∈b'.dz s'->r.queue≠m->xL Q3 r=xL Q' r:=by
  intro s' r iQ hr jy;exact zt _ (c.uw _ (g7 iQ hr)).1 jy
 generalize hB:({b' with a:=b'.a.put m id dr top,at_:=lV id ⟨s,p,k⟩ b'.at_}:dq)=B3;have SP:∀s',B3.dz s'=b'.dz s':=by intro s';rw[<- hB];rfl
 have SQ:B3.a=b'.a.put m id dr top:=by rw[<- hB]
 have aaV:B3.at_=lV id ⟨s,p,k⟩ b'.at_:=by rw[<- hB]
 have M0:B3.qs=b'.qs:=by rw[<- hB];rfl
 have aaU:B3.spare=b'.spare:=by rw[<- hB]
 have FX:∀s' (r:xX),(s'=1\/s'=2)->r∈b'.dz s'->r.queue≠m->B3.ig Q3 s' r=b'.ig Q' s' r/\(xL Q3 r).map (uS B3.a s' r.dm)=(xL Q' r).map (uS b'.a s' r.dm):=by
  intro s' r iQ hr jy;rw[dq.ig,dq.ig,HY s' r iQ hr jy,SQ];exact⟨uk λj hj=>(AU s' r iQ hr j hj).2.1,uk λj hj=>(AU s' r iQ hr j hj).2.2⟩
 have Jg:uE B3.a s p k=⟨id,s,p,dr,top⟩/\uS B3.a s p k=(id,⟨s,p,k⟩):=by
  have:=Ts k;rw[fh rfl]at this;rw[uE,SQ,this];refine⟨rfl,?_⟩;have:=congrArg Ex.id this;rw[uS];exact congrArg (λi=>(i,(⟨s,p,k⟩:Place))) this
 have Tz:B3.ig Q3 s ⟨p,m⟩=b'.ig Q' s ⟨p,m⟩++[⟨id,s,p,dr,top⟩]/\(xL Q3 ⟨p,m⟩).map (uS B3.a s p)=(xL Q' ⟨p,m⟩).map (uS b'.a s p)++[(id,⟨s,p,k⟩)]:=by
  rw[dq.ig,dq.ig,zu,jh,jh,ao,ao];refine⟨?_,?_⟩
  ·rw[Jg.1,uk (g:=uE b'.a s p) λj hj=>by rw[SQ];exact(AU s ⟨p,m⟩ hs HX j hj).2.1]
  ·rw[Jg.2,uk (g:=uS b'.a s p) λj hj=>by rw[SQ];exact(AU s ⟨p,m⟩ hs HX j hj).2.2]
 have Ys:∀r∈R1,r∈b'.dz s/\r.queue≠m:=by
  intro r hr;have hm:r∈b'.dz s:=by rw[h.dz];exact za _ hr
  refine⟨hm,λe=> ?_⟩;have e2:=(FZ s r hs hm e).2;have:=h.lg.a r hr;rw[e2,N6]at this;cases this
 have Pc:∀r∈R2,r∈b'.dz s/\r.queue≠m:=by
  intro r hr;have hm:r∈b'.dz s:=by rw[h.dz];exact Af _ (jj _ hr)
  refine⟨hm,λe=> ?_⟩;have e2:=(FZ s r hs hm e).2;have:=h.lg.b r hr;rw[e2,N6]at this;cases this
 have zF:B3.iv Q3 s=(R1.flatMap (b'.ig Q' s)++b'.ig Q' s ⟨p,m⟩)++⟨id,s,p,dr,top⟩::R2.flatMap (b'.ig Q' s):=by
  rw[dq.iv,SP,h.dz,zh,vw,Tz.1,xM (l:=R1) (λr hr=>(FX s r hs (Ys r hr).1 (Ys r hr).2).1),xM (l:=R2) (λr hr=>(FX s r hs (Pc r hr).1 (Pc r hr).2).1)];simp
 have KL:b'.iv Q' s=(R1.flatMap (b'.ig Q' s)++b'.ig Q' s ⟨p,m⟩)++R2.flatMap (b'.ig Q' s):=by
  rw[dq.iv,h.dz,zh,vw,jd]
 have Th:(B3.mr Q3 s).Perm ((id,⟨s,p,k⟩)::b'.mr Q' s):=by
  rw[dq.mr,SP,h.dz,zh,vw,Tz.2,xM (l:=R1) (λr hr=>(FX s r hs (Ys r hr).1 (Ys r hr).2).2),xM (l:=R2) (λr hr=>(FX s r hs (Pc r hr).1 (Pc r hr).2).2),dq.mr,h.dz,zh,vw];rw[jd,RP,<- jd];refine mu.trans ?_;rw[jd]
 have other:∀s',s'≠s->s'=1\/s'=2->B3.iv Q3 s'=b'.iv Q' s'/\B3.mr Q3 s'=b'.mr Q' s':=by
  intro s' jy iQ;have Jh:∀r∈b'.dz s',r.queue≠m:=λr hr e=>jy (FZ s' r iQ hr e).1
  rw[dq.iv,dq.iv,dq.mr,dq.mr,SP];exact⟨xM λr hr=>(FX s' r iQ hr (Jh r hr)).1,xM λr hr=>(FX s' r iQ hr (Jh r hr)).2⟩
 have bA:∀o∈R1.flatMap (b'.ig Q' s)++b'.ig Q' s ⟨p,m⟩,before s p o=ar:=by
  intro o ho;rcases oH.1 ho with ho|ho
  ·obtain⟨r,hr,ho⟩:=Bf.1 ho;obtain⟨e1,e2⟩:=qZ ho;rw[before,e1,e2,z5r (h.lg.a r hr)];simp
  ·obtain⟨e1,e2⟩:=qZ ho;rw[before,e1,e2,N6];simp
 have bB:∀o∈R2.flatMap (b'.ig Q' s),before s p o=au:=by
  intro o ho;obtain⟨r,hr,ho⟩:=Bf.1 ho;obtain⟨e1,e2⟩:=qZ ho;rw[before,e1,e2,h.lg.b r hr];simp
 have bO:∀s',s'≠s->s'=1\/s'=2->∀o∈b'.iv Q' s',before s p o=decide (s=2):=by
  intro s' jy iQ o ho;have:=(pO ho).1;exact z3f oM oM hs
 have UD:∃A B,b'.flat Q'=A++B/\B3.flat Q3=A++⟨id,s,p,dr,top⟩::B/\(∀o∈A,before s p o=ar)/\∀o∈B,before s p o=au:=by
  rcases hs with rfl|rfl
  ·refine⟨_,R2.flatMap (b'.ig Q' 1)++b'.iv Q' 2,?_,?_,bA,λo ho=> ?_⟩
   ·rw[dq.flat,KL];simp only[jd]
   ·rw[dq.flat,zF,(other 2 (by decide) (.inr rfl)).1];simp only[jd,uu]
   ·rcases oH.1 ho with ho|ho
    ·exact bB o ho
    ·exact bO 2 Z8 (.inr rfl) o ho
  ·refine⟨b'.iv Q' 1++(R1.flatMap (b'.ig Q' 2)++b'.ig Q' 2 ⟨p,m⟩),R2.flatMap (b'.ig Q' 2),?_,?_,λo ho=> ?_,bB⟩
   ·rw[dq.flat,KL];simp only[jd]
   ·rw[dq.flat,zF,(other 1 (by decide) (.inl rfl)).1];simp only[jd]
   ·rcases oH.1 ho with ho|ho
    ·exact bO 1 Z8 (.inl rfl) o ho
    ·exact bA o ho
 obtain⟨A,B,f1,f2,f3,f4⟩:=UD;refine⟨Q3,A,B,⟨by rw[SQ];exact kw,λs' iQ=>by rw[SP];exact c.xw s' iQ,by rw[M0,Kw];exact c.uw,by rw[M0];exact c.nd,by rw[M0,Kw];exact c.ql,λs' iQ r hr _=> ?_,λq hq=> ?_,?_,?_,by rw[Kw];exact c.qb⟩,f1,f2,f3,f4⟩
 ·rw[SP]at hr;by_cases e:r.queue=m
  ·obtain⟨rfl,rfl⟩:=FZ s' r iQ hr e;rw[zu];simp
  ·rw[HY s' r iQ hr e];exact c.ne s' iQ r hr e
 ·rw[aaU]at hq;have O0:q∈b'.qs:=Af _ hq;rw[zt q (c.uw q O0).1 λe=> ?_]
  ·exact c.sp q hq
  ·have AK:=c.nd;rw[dq.qs]at AK;refine(AB.1 AK).2.2 m ?_ q hq e.symm;rcases hs with rfl|rfl
   ·exact za _ (nn.2 ⟨_,HX,rfl⟩)
   ·exact Af _ (nn.2 ⟨_,HX,rfl⟩)
 ·have IW:id∉b'.at_.map (·.1):=by
   rw[c.Ao.mem_iff,h.flat];exact Bn
  rw[aaV,z6v IW];refine(RV _ _).trans ?_;rcases hs with rfl|rfl
  ·rw[(other 2 (by decide) (.inr rfl)).2];exact(c.at_.cons _).trans (Th.symm.append_right _)
  ·rw[(other 1 (by decide) (.inl rfl)).2];refine(c.at_.cons _).trans ?_;refine(mu.symm).trans (Th.symm.append_left _)
 ·rw[f2,jh,jg];have h1:=c.ids;rw[f1,jh]at h1;have h2:id∉(A++B).map (·.id):=by rw[<- f1,h.flat];exact Bn
  refine mu.nodup_iff.2 (yz.2 ⟨by rw[jh]at h2;exact h2,h1⟩)
def vQ (L:List zK) (id:Int):Bool:=L.any λo=>decide (o.id=id)
def CC (L:List zK) (s id p q:Int):List zK×Int:=if q<1\/1000000<q then(L,24)else if vQ L id=ar then(L,25)else if 250<=L.length then(L,13)else(Iw L s id p q,0)
def ku {L:List zK} {id:Int}:vQ L id=ar↔id∈L.map (·.id):=by
 rw[vQ,Oy,nn];constructor
 ·rintro⟨o,ho,e⟩;exact⟨o,ho,su e⟩
 ·rintro⟨o,ho,e⟩;exact⟨o,ho,jt e⟩
def sM {b:dq} {Q:Q_ Nat} {o:zK} (h:o∈b.flat Q):(o.side=1\/o.side=2)/\∃r∈b.dz o.side,o∈b.ig Q o.side r/\o.dm=r.dm:=by
 rcases oH.1 h with h|h
 all_goals
  obtain⟨e,r,hr,ho,hp⟩:=pO h;rw[e];exact⟨by simp,r,hr,ho,hp⟩
def Ce {b:dq} {Q:Q_ Nat} {s:Int} (hs:s=1\/s=2) {o:zK} (h:o∈b.iv Q s):o∈b.flat Q:=by
 rcases hs with rfl|rfl
 ·exact za _ h
 ·exact Af _ h
def dq.Core.leads {b:dq} {Q:Q_ Nat} (c:b.Core Q (-1)) {s:Int} (hs:s=1\/s=2) (p:Int):b.leads s p=fU (b.flat Q) s p:=by
 have Tx:=c.xw s hs;have jy:=c.ne s hs;rw[dq.leads];cases hr:b.dz s with
 |nil=>
  symm;dsimp only;rw[fU,Ej];intro o ho;obtain⟨_,r,xz,_⟩:=sM ho;by_cases e:o.side=s
  ·rw[e,hr]at xz;cases xz
  ·rw[ju e];rfl
 |cons r0 l=>
  dsimp only;rw[hr,zg]at Tx;have hm:r0∈b.dz s:=by rw[hr];exact iY
  cases hb:jo s p r0.dm with
  |true=>
   symm;rw[fU,Ej];intro o ho;obtain⟨_,r,xz,_,hp⟩:=sM ho;by_cases e:o.side=s
   ·rw[e,hr]at xz;rw[hp];rcases j'.1 xz with rfl|xz
    ·rw[hb];simp
    ·rw[zYm hb (Tx.1 r xz)];simp
   ·rw[ju e];rfl
  |false=>
   symm;rw[fU,List.all_eq_false];have h0:=jy r0 hm λe=>by have:=c.uw _ (g7 hs hm);omega
   cases hk:xL Q r0 with
   |nil=>exact absurd hk h0
   |cons k ks=>
    refine⟨uE b.a s r0.dm k,Ce hs (Bf.2 ⟨r0,hm,by rw[dq.ig,hk];exact iY⟩),?_⟩;show ¬((!decide (s=s))||jo s p r0.dm)=ar;rw[hb];simp
def yFm {L:List zK} {s:Int} {o:zK} (h:o∈DI L s):∃o'∈L,o.id=o'.id/\o.side=o'.side/\o.dm=o'.dm/\o.dr=o'.dr/\o.top=(if o.side=s then au else o'.top):=by
 obtain⟨o',ho,e⟩:=nn.1 h;refine⟨o',ho,?_⟩;by_cases c:o'.side=s
 ·rw[fh c]at e;subst e;exact(nh ((fh c).symm))
 ·rw[eg c]at e;subst e;exact(nh ((eg c).symm))
def yYn {L:List zK} {s:Int} {o:zK} (h:o∈L) (hs:o.side≠s):o∈DI L s:=nn.2 ⟨o,h,eg hs⟩
def yIn (L:List zK) (s:Int):(DI L s).map (·.id)=L.map (·.id):=by
 rw[DI,wx];refine uk λo _=> ?_
 simp only[cm];split<;>rfl
def z6h (b:dq) (id:Int) {s:Int} (hs:s=1\/s=2):(b.jm id s).a=b.iX s/\(b.jm id s).fv=b.fv/\(b.jm id s).fc=b.fc/\(b.jm id s).at_=b.at_/\(b.jm id s).spare=b.spare/\∀s',s'=1\/s'=2->(b.jm id s).nf s'=(if s'=s then ar else b.nf s')/\(b.jm id s).jc s'=(if s'=s then id else b.jc s'):=by
 rcases hs with rfl|rfl
 ·exact(tr (λs' h=>by rcases h with rfl|rfl<;>exact⟨rfl,rfl⟩))
 ·exact(tr (λs' h=>by rcases h with rfl|rfl<;>exact⟨rfl,rfl⟩))
def dq.Core.me {b b':dq} {Q:Q_ Nat} {h:Int} (c:b.Core Q h) (e1:b'.a=b.a) (e2:b'.fv=b.fv) (e3:b'.fc=b.fc) (e4:b'.at_=b.at_) (e5:b'.spare=b.spare):b'.Core Q h/\b'.flat Q=b.flat Q:=by
 have er:∀s,b'.dz s=b.dz s:=λs=>by rw[dq.dz,dq.dz,e2,e3]
 have eo:∀s r,b'.ig Q s r=b.ig Q s r:=λs r=>by rw[dq.ig,dq.ig,e1]
 have es:∀s,b'.iv Q s=b.iv Q s:=λs=>by rw[dq.iv,dq.iv,er];exact xM λr _=>eo s r
 have ep:∀s,b'.mr Q s=b.mr Q s:=λs=>by rw[dq.mr,dq.mr,er,e1]
 have ef:b'.flat Q=b.flat Q:=by rw[dq.flat,dq.flat,es,es]
 have eq:b'.qs=b.qs:=by rw[dq.qs,dq.qs,e2,e3,e5]
 exact⟨⟨by rw[e1];exact c.wf,λs hs=>by rw[er];exact c.xw s hs,by rw[eq];exact c.uw,by rw[eq];exact c.nd,by rw[eq];exact c.ql,λs hs=>by rw[er];exact c.ne s hs,by rw[e5];exact c.sp,by rw[e4,ep,ep];exact c.at_,by rw[ef];exact c.ids,c.qb⟩,ef⟩
def dq.ga.qe {b:dq} {L:List zK} (h:b.ga L) {s:Int} (hs:s=1\/s=2) {id p q:Int} (Bn:id∉L.map (·.id)) (hl:L.length<250) (hq:1<=q/\q<=1000000):(b.qe s id p q).ga (Iw L s id p q):=by
 obtain⟨Q,c,ht,rfl⟩:=h;have Sy:=c.leads hs p;have h1:(b.rf id s p).Core Q (-1)/\(b.rf id s p).flat Q=(if fU (b.flat Q) s p=ar then DI (b.flat Q) s else b.flat Q):=by
  rw[dq.rf,Sy];split
  ·obtain⟨e1,e2,e3,e4,e5,_⟩:=z6h b id hs;obtain⟨u1,u2⟩:=c.iX s;obtain⟨v1,v2⟩:=dq.Core.me (b':=b.jm id s) (c.flag u1 u2) e1 e2 e3 e4 e5;exact⟨v1,v2.trans (c.Df ht hs)⟩
  ·exact⟨c,rfl⟩
 obtain⟨c1,f1⟩:=h1;have K9:((b.rf id s p).flat Q).length<250:=by
  rw[f1];split
  ·rw[DI,ib];exact hl
  ·exact hl
 have aaN:id∉((b.rf id s p).flat Q).map (·.id):=by
  rw[f1];split
  ·rw[yIn];exact Bn
  ·exact Bn
 obtain⟨Q',R1,R2,FZ⟩:=c1.queue K9 hs p;obtain⟨Q3,A,B,k1,k2,k3,k4,k5⟩:=FZ.put hs (b.leads s p) aaN (c1.used K9) hq;have MB:A++B=(if fU (b.flat Q) s p=ar then DI (b.flat Q) s else b.flat Q):=by rw[<- k2,FZ.flat,f1]
 have BV:Iw (b.flat Q) s id p q=A++⟨id,s,p,q,b.leads s p⟩::B:=by
  rw[Iw];obtain⟨t1,t2⟩:=yOj k4 k5;rw[<- MB,t1,t2,Sy]
 refine⟨Q3,k1,?_,?_⟩
 ·rw[BV,Sy];show dq.BX {((b.rf id s p).gf s p).1 with a:=_,at_:=_} _;have sx:∀x,({((b.rf id s p).gf s p).1 with a:=(((b.rf id s p).gf s p).1.a.push ((b.rf id s p).gf s p).2 id q (b.leads s p)).1,at_:=lV id ⟨s,p,(((b.rf id s p).gf s p).1.a.push ((b.rf id s p).gf s p).2 id q (b.leads s p)).2.1⟩ ((b.rf id s p).gf s p).1.at_}:dq).nf x=(b.rf id s p).nf x/\({((b.rf id s p).gf s p).1 with a:=(((b.rf id s p).gf s p).1.a.push ((b.rf id s p).gf s p).2 id q (b.leads s p)).1,at_:=lV id ⟨s,p,(((b.rf id s p).gf s p).1.a.push ((b.rf id s p).gf s p).2 id q (b.leads s p)).2.1⟩ ((b.rf id s p).gf s p).1.at_}:dq).jc x=(b.rf id s p).jc x:=FZ.dr;generalize ({((b.rf id s p).gf s p).1 with a:=(((b.rf id s p).gf s p).1.a.push ((b.rf id s p).gf s p).2 id q (b.leads s p)).1,at_:=lV id ⟨s,p,(((b.rf id s p).gf s p).1.a.push ((b.rf id s p).gf s p).2 id q (b.leads s p)).2.1⟩ ((b.rf id s p).gf s p).1.at_}:dq)=B3 at*;have Sa:∀o,o∈A++⟨id,s,p,q,fU (b.flat Q) s p⟩::B↔o=⟨id,s,p,q,fU (b.flat Q) s p⟩\/o∈A++B:=by
   intro o;rw[oH,j',oH];constructor
   ·rintro(h|h|h)
    ·exact .inr (.inl h)
    ·exact .inl h
    ·exact .inr (.inr h)
   ·rintro(h|h|h)
    ·exact .inr (.inl h)
    ·exact .inl h
    ·exact .inr (.inr h)
  have Fb:∀o∈b.flat Q,o.side=1\/o.side=2:=λo ho=>(sM ho).1
  by_cases Ap:fU (b.flat Q) s p=ar
  ·rw[fh Ap]at MB;have qk:b.rf id s p=b.jm id s:=by rw[dq.rf,fh (Sy.trans Ap)]
   obtain⟨_,_,_,_,_,e6⟩:=z6h b id hs;rw[qk]at sx;refine⟨λo ho=> ?_,λs' iQ hh=> ?_⟩
   ·rcases(Sa o).1 ho with rfl|ho
    ·rw[(sx s).1,(sx s).2,(e6 s hs).1,(e6 s hs).2,fh rfl,fh rfl,Ap];simp
    ·rw[MB]at ho;obtain⟨o',oK,i1,i2,_,_,i5⟩:=yFm ho;rw[(sx _).1,(sx _).2,i5,(e6 o.side (by rw[i2];exact Fb o' oK)).1,(e6 o.side (by rw[i2];exact Fb o' oK)).2];by_cases e:o.side=s
     ·rw[fh e,fh e,fh e,AA];symm;refine ju λe2=>Bn ?_
      rw[<- e2,i1];exact sv oK
     ·rw[eg e,eg e,eg e,ht.fl o' oK,i1,i2]
   ·rw[(sx s').2,(e6 s' iQ).2];by_cases e:s'=s
    ·rw[fh e];exact⟨_,(Sa _).2 (.inl rfl),e.symm,rfl⟩
    ·rw[(sx s').1,(e6 s' iQ).1,eg e]at hh;rw[eg e];obtain⟨o,ho,o1,o2⟩:=ht.th s' iQ hh;exact⟨o,(Sa _).2 (.inr (by rw[MB];exact yYn ho (by rw[o1];exact e))),o1,o2⟩
  ·rw[eg Ap]at MB;have hlf:fU (b.flat Q) s p=au:=i9 Ap
   have qk:b.rf id s p=b:=by rw[dq.rf,eg (by rw[Sy];exact Ap)]
   rw[qk]at sx;refine⟨λo ho=> ?_,λs' iQ hh=> ?_⟩
   ·rw[(sx _).1,(sx _).2];rcases(Sa o).1 ho with rfl|ho
    ·show fU (b.flat Q) s p=(b.nf s && decide (id=b.jc s));rw[hlf];cases hh:b.nf s with
     |false=>rfl
     |true=>
      rw[AA];symm;refine ju λe2=>Bn ?_
      obtain⟨o,ho,_,o2⟩:=ht.th s hs hh;rw[e2,<- o2];exact sv ho
    ·rw[MB]at ho;exact ht.fl o ho
   ·rw[(sx s').1]at hh;rw[(sx s').2];obtain⟨o,ho,o1,o2⟩:=ht.th s' iQ hh;exact⟨o,(Sa _).2 (.inr (by rw[MB];exact ho)),o1,o2⟩
 ·rw[BV];exact k3.symm
def dq.ga.lh {b:dq} {L:List zK} (h:b.ga L) (id:Int):(lh b.at_ id).isSome=vQ L id:=by
 obtain⟨Q,c,ht,rfl⟩:=h;cases hg:Sx.lh b.at_ id with
 |none=>
  have:=zLe hg;rw[c.Ao.mem_iff,<- ku]at this;symm;simpa using this
 |some x=>
  have:=sv (f:=(·.1)) (P' hg)
  rw[c.Ao.mem_iff,<- ku]at this;symm;exact this
def dq.ga.len {b:dq} {L:List zK} (h:b.ga L):b.at_.length=L.length:=by
 obtain⟨Q,c,ht,rfl⟩:=h;exact c.len
def dq.ga.add {b:dq} {L:List zK} (h:b.ga L) {s:Int} (hs:s=1\/s=2) (id p q:Int):(b.iD s id p q).1.ga (CC L s id p q).1/\(b.iD s id p q).2=(CC L s id p q).2:=by
 rw[dq.iD,CC,h.lh,h.len]
 repeat' split
 all_goals first|exact⟨h,rfl⟩|skip
 rename_i c1 c2 c3;exact⟨h.qe hs (λe=>c2 (ku.2 e)) oM oM,rfl⟩
def yKv:og.ga []:=by
 refine⟨[],⟨⟨⟨by simp[og,PA],rfl,λn l h=>by simp at h,λn l h=>by simp at h,λn l h=>by simp at h,λk s hk hu=> ?_,?_⟩,λn l h=>by simp at h⟩,λs hs=> ?_,λq hq=>by simp[og,dq.qs]at hq,by simp[og,dq.qs],rfl,λs hs r hr=> ?_,λq hq=>by simp[og]at hq,?_,?_,Z8⟩,⟨λo ho=>(by cases ho),λs hs hh=> ?_⟩,?_⟩
 ·have:=kx hk;rw[XS this]at hu;cases hu
 ·decide
 ·rcases hs with rfl|rfl<;>exact List.Pairwise.nil
 ·rcases hs with rfl|rfl<;>cases hr
 ·exact List.Perm.refl _
 ·exact Ou
 ·rcases hs with rfl|rfl<;>cases hh
 ·rfl
structure Fv where
 b:dq
 s:Int
 r:xX
 l:List Nat
def Fv.oA (i:Fv):List zK:=(i.b.a.fy i.l).map λe=>⟨e.id,i.s,i.r.dm,e.dr,e.top⟩
def D5:gh:=fp Fv (λi=>[.nm 0 0,zB i.s,.agg [zB i.r.dm,zB i.r.queue]]) (λi=>[yA i.b]) (λi=>i.b.a.qh i.r.queue i.l) (λ_=> .own 1) (λi=>[yA i.b,.own 174 5 (i.oA.map wT)])
def y0j (i:Fv):List gu:=[{ι:=Nat,du:=λj=>[(7,.own 0),(18,zB j)],rows:=λj=>[.own 174 5 ((i.oA.take j).map wT)]}]
def dQ (a:ML):=(aa EU (a.a.fy a.l))
def yEk (i:Fv):Prop:=
 ∃(a:ML),a.n=i.r.queue/\av dv 3 zI a.a=av dv 3 zI i.b.a/\a.a.qh a.n a.l/\ff (∃(c:Nat),(c:Int)=0/\aa wT (ab c i.oA)=[]/\∃(d:Nat->Prop),∃(e:Nat->Nat),d c/\∀(f:Nat),d f->dp (decide ((f:Int)<((dQ a).length:Int))) ((0<=(f:Int)/\(f:Int)<((dQ a).length:Int))/\∃(g:Int),∃(h:Int),∃(j:Int),∃(k:Bool),zC (dQ a) (f:Int).toNat 0 4=az [dI g,dI h,dI j,D.v (.bool k)]/\((aa wT (ab f i.oA)).length+1)*(40:Nat)<=(140737488355328:Nat)/\∃(l:Nat),(l:Int)=bo.wrap ((f:Int)+1)/\aa wT (ab l i.oA)=aa wT (ab f i.oA)++[[dI h,dI i.s,dI i.r.dm,dI j,D.v (.bool k)]]/\d l/\e l<e f/\dk (av dv 3 zI a.a)/\dk (ax 363 4 (dQ a))/\dk (aw [V.d (dI i.r.dm),V.d (dI i.r.queue)] 340)/\dk (aw [V.nm 1 0,V.own 2,V.own 3,V.mp 4,V.d (dI i.b.iM),V.d (dI i.b.iL),V.own 5,V.d (D.v (.bool i.b.gv)),V.d (D.v (.bool i.b.gq))] (284:ce))/\QN i.b (dk (ax 3 1 (iE i.b.spare)))) (dx (Q9 i.b (av dv 3 zI i.b.a=av dv 3 zI a.a/\QP i.b (aa wT i.oA=aa wT (ab f i.oA)/\True)))))
def xHy {l:List Ex} {k:Nat} {e:Ex} (h:l[k]? =az e):zC (l.map EU) k 0 4=az [D.v (.int .i64 e.slot),.v (.int .i64 e.id),.v (.int .i64 e.dr),.v (.bool e.top)]:=jz h (by simp[EU]) rfl
def yXq (i:Fv) (h:D5.dp i):yEk i:=by
 have h:i.b.a.qh i.r.queue i.l:=h;have hl:=h.len;have hen:(i.b.a.fy i.l).length=i.l.length:=by simp[dv.fy]
 have uq:i.oA.length=i.l.length:=by simp[Fv.oA,dv.fy]
 unfold yEk Q9 QN QP ff dx dQ dI;refine⟨⟨i.b.a,i.r.queue,i.l⟩,rfl,rfl,h,λ_ _=> ?_⟩;simp only[ib];refine⟨0,rfl,rfl,λj=>j<=i.l.length,λj=>i.l.length-j,ml _,λj hj=>zH (λc=> ?_) (λc=> ?_)⟩
 ·obtain⟨e,he⟩:=zZ (l:=i.b.a.fy i.l) (i:=j) oM;have ho:i.oA[j]? =az ⟨e.id,i.s,i.r.dm,e.dr,e.top⟩:=by rw[Fv.oA,ra,he];rfl
  refine⟨⟨oM,oM⟩,e.slot,e.id,e.dr,e.top,xHy he,by rw[nr];omega,j+1,pf oM,?_,oM,Z9,gj⟩;rw[qf,ho];simp[wT]
 ·have F2:j=i.l.length:=X_
  subst F2;rw[ng (l:=i.oA) X_]
  exact kp
def zWk:D5.ok Z_ 241:=gy mixed (dw yQo fk) 0 i6 (λi=>y0j i) [0] func241 yXq
open Go Go.RowKit Cv
def z3y {P:bz} {tS rt e sz oF:Nat} {z:Array bu} (hi:vY P tS=az (e,sz,oF,z)) {w:bv} {g i c n k:Nat} {A:Option cf} {cur src:List bu} {T:ce}
 (hg:w.heap[g]? =az (.cells cur.toArray T (0,0))) (hs:(be sz n (.slice A n k)).run P w= .ok src.toArray w) (hl:src.length=n*sz) (tn:i+n<=c) (Gk:i*sz+n*sz<=cur.length) (ED:∀v∈src,v.ou=ar):
 fH P (bg #[tS,tS] rt #[.slice (az ⟨g,0,ba⟩) i c,.slice A n k]) w (.slice (az ⟨g,0,ba⟩) (i+n) c) (World.ja w g (.cells (lg cur (i*sz) src).toArray T (0,0))):=by
 obtain⟨inf,zv,q1,q2,rfl,rfl,q5,rfl⟩:=jI hi;have lr:=vM (P:=P) src 0 (i*inf.size) cur w hg oM ED;simp only[FJ]at lr;have hln:∀w,(Builtin.lenOf (.slice A n k)).run P w= .ok n w:=λw=>rfl
 unfold fH bg;simp only[Bj,CM,Bk,bind,pure,run_bind,Sem.bind,Sem.run,Cv.run_underlying q1,Cv.run_sizeOf q2,oS,if_false,hs,hln,tn,if_true,uV,nt,lr,J9]
def yCh {P:bz} {tS ty e sz oF:Nat} {z:Array bu} (hi:vY P tS=az (e,sz,oF,z)) (hz:z.size=sz) (h1:∀v∈z.toList,v.ou=ar) {w:bv} {g o n c:Nat} {cur:List bu} {T:ce} (hn:0<n)
 (hg:w.heap[g]? =az (.cells cur.toArray T (0,0))) (Gk:o+n*sz<=cur.length):
 fH P (Builtin.clear_ #[tS] ty #[.slice (az ⟨g,o,ba⟩) n c]) w (.tuple #[]) (World.ja w g (.cells (lg cur o (bc z n).toList).toArray T (0,0))):=by
 obtain⟨inf,zv,q1,q2,rfl,rfl,q5,rfl⟩:=jI hi;have hlz:(bc zv.cells n).toList.length=n*inf.size:=by rw[Kf,cd,hz]
 have lr:=vM (P:=P) (bc zv.cells n).toList 0 o cur w hg oM (by
  intro v hv;obtain⟨i,hi,rfl⟩:=List.getElem_of_mem hv;simp only[bc,Array.getElem_toList,Array.getElem_map,Array.getElem_range];have xp:0<zv.cells.size:=by
   rcases Nat.eq_zero_or_pos zv.cells.size with h0|h0
   ·rw[hlz,<- hz,h0]at hi;omega
   ·exact h0
  have gr:i % zv.cells.size<zv.cells.size:=Nat.mod_lt _ xp;rw[getElem!_pos zv.cells (i % zv.cells.size) gr];exact h1 _ (by simp))
 simp only[FJ]at lr;have Fa:∀w,(zeroValue e).run P w= .ok zv w:=λw=>mg (by unfold zero?;rw[q2];exact q5) w
 obtain⟨m,rfl⟩:∃m,n=m+1:=⟨n-1,oM⟩
 unfold fH Builtin.clear_;simp only[Bj,CM,Bk,bind,pure,run_bind,Sem.bind,Sem.run,Cv.run_underlying q1,Fa,lr]
def y9h (P:bz) (tS sz:Nat) (s:Option cf) (sn sk:Nat) (i j:Int) (w:bv) (R:Ending->bv->Prop):Prop:=
y7i s sk i j (sn:Int) sz λa1 na1 ka1=>
dp ((i:Int)==j) (
R (.returned (.slice s sn sk)) w) (
XN w λw2=>
uc s sn sk ba (az i) sz λa3 na3 ka3=>
uc s sn sk (az j) ba sz λa4 na4 ka4=>
∃(a5:Option cf) (IL Ki:Nat),∃w6:bv,fH P (bg #[tS,tS] tS #[.slice a3 na3 ka3,.slice a4 na4 ka4]) w2 (.slice a5 IL Ki) w6/\
uc a5 IL Ki (az (IL:Int)) (az (sn:Int)) sz λa7 na7 ka7=>
∃w8:bv,fH P (Builtin.clear_ #[tS] 0 #[.slice a7 na7 ka7]) w6 (.tuple #[]) w8/\
R (.returned (.slice a5 IL Ki)) w8)
def xKe {P:bz} {tS e sz oF:Nat} {z:Array bu} (hi:vY P tS=az (e,sz,oF,z)) (hz:z.size=sz) (Mn:∀v∈z.toList,v.ou=ar)
 {k:Ko} {w:bv} {L:List HP} {s:Option cf} {sn sk i j:Nat} {xs:List bu} (H:Hp k w (ow e sz s sn sk xs::L)) (h1:∀u∈xs,u.ou=ar) (Ks:i<j) (hj:j<=sn):
 y9h P tS sz s sn sk i j w λen w'=>∃a kk,en= .returned (.slice a (sn-(j-i)) kk)/\Hp k w' (ow e sz a (sn-(j-i)) kk (xs.take (i*sz)++xs.drop (j*sz))::L):=by
 obtain⟨CQ,IW⟩:=H.len;rcases H.oG with⟨_,e0,_⟩|⟨b,r,rfl,g1,g2,g3,H0⟩
 ·omega
 have hle:i*sz<=xs.length:=by rw[CQ];exact xv _ oM
 have aaK:j*sz<=xs.length:=by rw[CQ];exact xv _ hj
 have Mu:(xs.drop (j*sz)).length=(sn-j)*sz:=by rw[pj,CQ,Nat.sub_mul]
 have C1:i*sz+(sn-j)*sz=(sn-(j-i))*sz:=by rw[<- Ac];congr 1;omega
 have K3:i*sz+(sn-j)*sz+(j-i)*sz=sn*sz:=by rw[<- Ac,<- Ac];congr 1;omega
 have aa6:j*sz+(sn-j)*sz=sn*sz:=by rw[<- Ac];congr 1;omega
 have hlen:(xs++r).length=xs.length+r.length:=ix;unfold y9h;simp only[y7i,uc,ov];refine⟨⟨oM,oM,oM,oM⟩,W_ (λc=>absurd c (by simp;omega)) λ_=> ?_⟩;rintro _ rfl;have H1:=H0.drew;have EC:(be sz (sn-j) (.slice (if sk=j then az ⟨b,0,ba⟩else(az ⟨b,0,ba⟩:Option cf).map (·.add (j*sz))) (sn-j) (sk-j))).run P w.drew= .ok (xs.drop (j*sz)).toArray w.drew:=by
  by_cases h0:(sn-j)*sz=0
  ·have:xs.drop (j*sz)=[]:=ye oM;rw[this];by_cases hk:sk=j
   ·rw[fh hk];unfold be;rw[h0];rfl
   ·rw[eg hk,wz,uV];unfold be;rw[h0];rfl
  ·have hk:sk≠j:=by rintro rfl;have:sn-sk=0:=X_
                    rw[this]at h0;simp at h0
   rw[eg hk,wz,uV];unfold be;rw[fE H1.get (by rw[hlen];omega)];rw[nt,HN aaK,zi X_,ng X_]
 refine⟨⟨oM,oM⟩,⟨oM,oM,IW⟩,_,_,_,_,z3y (i:=i) (c:=sk) hi H1.get EC Mu oM (by rw[hlen];omega) (λv hv=>h1 v (Kg hv)),⟨oM,oM,oM⟩,?_⟩;have H2:=H1.zj (.cells (lg (xs++r) (i*sz) (xs.drop (j*sz))).toArray e);have e1:i+(sn-j)=sn-(j-i):=X_
 rw[eg (show sk≠i+(sn-j)by omega),wz,uV,nt,e1];have TN:lg (xs++r) (i*sz) (xs.drop (j*sz))=(xs.take (i*sz)++xs.drop (j*sz))++(xs++r).drop ((sn-(j-i))*sz):=by
  simp only[lg];rw[zi hle,Mu,C1]
 rw[TN]at H2;have hA:(xs.take (i*sz)++xs.drop (j*sz)).length=(sn-(j-i))*sz:=by
  rw[ix,nr,Mu];omega
 have hB:((xs++r).drop ((sn-(j-i))*sz)).length=(j-i)*sz+r.length:=by
  rw[pj,hlen];omega
 rw[TN];have hn:sn-(sn-(j-i))=j-i:=X_
 rw[hn];refine⟨_,yCh hi hz Mn oM H2.get (by rw[ix,hA,hB];omega),_,_,rfl,?_⟩;have H3:=H2.zj (.cells (lg (xs.take (i*sz)++xs.drop (j*sz)++(xs++r).drop ((sn-(j-i))*sz)) ((sn-(j-i))*sz) (bc z (j-i)).toList).toArray e);have es:=z0j (xs.take (i*sz)++xs.drop (j*sz)) ((xs++r).drop ((sn-(j-i))*sz)) (bc z (j-i)).toList;rw[hA]at es;rw[es]at H3;rw[es];rw[jd (xs.take (i*sz)++xs.drop (j*sz))]at H3 ⊢;have DA:(bc z (j-i)).toList.length=(j-i)*sz:=by rw[Kf,cd,hz]
 refine H3.AP hA ?_ oM;rw[ix,hA,ix,DA,pj,hB,<- g2,hlen,CQ];omega
structure LQ where
 fa:Q_ D
 i:Nat
 j:Nat
def Xs (e sz:Nat):gh where
 ι:=LQ
 pat:=λi=>[.own 0,.d (.v (.int .i64 i.i)),.d (.v (.int .i64 i.j))]
 pre:=λi=>[.own e sz i.fa]
 dp:=λi=>i.i<i.j/\i.j<=i.fa.length
 alts:=λi=>[{o:=Unit,res:=λ_=> .own 1,post:=λ_=>[.gone,.own e sz (i.fa.take i.i++i.fa.drop i.j)],rel:=λ_=>True}]
def D' {P:bz} (hm:P.follows .mixedOrders=ar) {tS e sz oF fI:Nat} {z:Array bu} {fn:Func} {c:Code} (hf:P.funcs[fI]? =az fn) (hb:fn.body=az c) (BJ:gJ P fI=ar) (oZ:xx fn.ntmps c=ar) (Mt:okF [] c=ar) (MM:Nat.ble 3 fn.ntmps=ar)
 (hi:vY P tS=az (e,sz,oF,z)) (hz:z.size=sz) (Mn:∀v∈z.toList,v.ou=ar)
 (heq:∀(s:Option cf) (sn sk:Nat) (i j:Int) (w:bv) (R:Ending->bv->Prop),y9h P tS sz s sn sk i j w R=Fl P [] c (Xb P fn R) (gF [.slice s sn sk,.int .i64 i,.int .i64 j]) w):
 (Xs e sz).ok P fI:=by
 intro i hc k L E w ys R hv;obtain⟨c1,c2⟩:i.i<i.j/\i.j<=i.fa.length:=hc;simp only[Xs,ic,VR,DR]at hv;obtain⟨y0,_,rfl,⟨l0,e0,_⟩,y1,_,rfl,⟨rfl,_⟩,y2,_,rfl,⟨rfl,_⟩,rfl⟩:=hv;obtain⟨s,sk,xs,aab,g1,xa,hu,H⟩:=R.tb (n:=0) (t:=e) (sz:=sz) (fa:=i.fa) rfl;rw[e0]at g1;cases g1;have H2:Hp k w (ow e sz s i.fa.length sk xs::fz E.F::L):=H;have hv:=xKe hi hz Mn H2 xa.one c1 c2;have xk:=zOr (args:=[.slice s i.fa.length sk,.int .i64 i.i,.int .i64 i.j]) hm hf hb [] oZ Mt MM (heq s i.fa.length sk i.i i.j w _) hv;refine mZ BJ (xk.mono ?_);rintro en w' ⟨a,kk,rfl,H3⟩;have hl:(i.fa.take i.i++i.fa.drop i.j).length=i.fa.length-(i.j-i.i):=by
  rw[ix,nr,pj];omega
 have H4:Hp k w' (ow e sz a (i.fa.take i.i++i.fa.drop i.j).length kk (xs.take (i.i*sz)++xs.drop (i.j*sz))::(([]:List (Nat×fq)).map (ie E)++fz E.F::L)):=by
  rw[hl];exact H3
 obtain⟨E',r1,r2,r3⟩:=aJ (nx:=1) R.nx (by
  rw[OF,<- tG i.i hu,<- rZ i.j hu];exact(xa.take _).append (xa.drop _)) (λx hx=>by
   rcases oH.1 hx with hx|hx
   ·exact hu x (OG hx)
   ·exact hu x (Kg hx)) H4
 rw[hl]at r3;refine⟨_,rfl,_,tq.2 rfl,(),Y_,E',r1,r3,⟨r2.nx,?_⟩⟩;exact((@gD k w' True _).2 ⟨Y_,r2.hp⟩).imp (B:=ie E' (0,.gone)) λx hx=> .inl ⟨rfl,hx.2⟩
def rS (k:Int):List (Int×Place)->List (Int×Place)
 |[]=>[]
 |(a,b)::l=>if k=a then l else(a,b)::rS k l
structure BO where
 b:dq
 id:Int
 dm:Int
 slot:Int
def dq.ki (b:dq) (s id:Int):dq:=if b.nf s=ar/\b.jc s=id then(if s=1 then{b with gv:=au}else{b with gq:=au})else b
def dq.iN (b:dq) (s id dm:Int):dq:=
 if(b.a.qn ((b.dz s).getD (yB s (b.dz s) dm) ⟨0,0⟩).queue).count=0 then
  ({b.ki s id with at_:=rS id b.at_,spare:=b.spare++[((b.dz s).getD (yB s (b.dz s) dm) ⟨0,0⟩).queue]}:dq).rl s ((b.dz s).take (yB s (b.dz s) dm)++(b.dz s).drop (yB s (b.dz s) dm+1))
 else{b.ki s id with at_:=rS id b.at_}
def y0b (b:dq):fq:= .cells [.nm 1 0,.own 6,.own 7,.mp 4,zB b.iM,zB b.iL,.own 8,yM b.gv,yM b.gq] 284
@[reducible] def y2s (b:dq):List fq:=[y0b b,zR b 1,.gone,.gone,zR b 4,.gone,zR b 2,zR b 3,zR b 5]
@[reducible] def BO.ok (i:BO) (s:Int):Prop:=i.b.small/\yB s (i.b.dz s) i.dm<(i.b.dz s).length
def ySi (s:Int):gh:=fp BO (λi=>[.nm 0 0,zB i.id,.agg [zB s,zB i.dm,zB i.slot]]) (λi=>JL i.b) (λi=>i.ok s) (λ_=>pW) (λi=>y2s (i.b.iN s i.id i.dm))
def G2:gh:=ySi 1
def G1:gh:=ySi 2
structure DrJ where
 i:BO
 s:Bool
def UF:gh:=fp DrJ (λj=>[.nm 0 0,zB j.i.id,.agg [zB (zF j.s),zB j.i.dm,zB j.i.slot]]) (λj=>JL j.i.b) (λj=>j.i.ok (zF j.s)) (λ_=>pW) (λj=>y2s (j.i.b.iN (zF j.s) j.i.id j.i.dm))
def UI:gh:=Xs 340 2
def y9v:zK:=⟨0,0,0,0,au⟩
def bL (L:List zK) (id:Int):zK:=(L.find? λo=>decide (o.id=id)).getD y9v
def wZ (L:List zK) (id q:Int):List zK:=L.filterMap λo=>if o.id=id then(if o.dr=q then ba else az {o with dr:=o.dr-q})else az o
def qK (L:List zK) (id q:Int):List zK×Int:=if vQ L id=au then(L,26)else if q<1\/(bL L id).dr<q then(L,24)else(wZ L id q,0)
def vy (L:List zK) (s p:Int):List zK:=L.filter λo=>decide (o.side=s) && decide (o.dm=p)
def yh:List zK->List Lv
 |[]=>[]
 |o::l=>match yh l with
  |[]=>[⟨o.dm,o.dr,1⟩]
  |v::vs=>if v.dm=o.dm then⟨v.dm,o.dr+v.dr,v.count+1⟩::vs else⟨o.dm,o.dr,1⟩::v::vs
def uF (L:List zK) (s:Int):List Lv:=yh (L.filter λo=>decide (o.side=s))
def iI (L:List zK) (s:Int):Lv×Bool:=match uF L s with
 |[]=>(⟨0,0,0⟩,au)
 |v::_=>(v,ar)
structure Im where
 b:dq
 L:List zK
structure CY where
 b:dq
 L:List zK
 id:Int
 dr:Int
structure I' where
 b:dq
 L:List zK
 s:Bool
 dm:Int
def Lg:gh where
 ι:=CY
 pat:=λi=>[.nm 0 0,zB i.id,zB i.dr]
 pre:=λi=>[yA i.b]
 dp:=λi=>i.b.ga i.L
 alts:=λi=>[{o:=dq,res:=λ_=>zB (qK i.L i.id i.dr).2,post:=λb=>[yA b],rel:=λb=>b.ga (qK i.L i.id i.dr).1}]
def G7:gh:=fp CY (λi=>[.nm 0 0,zB i.id]) (λi=>[yA i.b]) (λi=>i.b.ga i.L) (λi=> .je [Of (bL i.L i.id),yM (vQ i.L i.id)]) (λi=>[yA i.b])
def xCq (s:Bool):gh:=fp I' (λi=>[.nm 0 0,zB (zF s),zB i.dm]) (λi=>[yA i.b]) (λi=>i.b.ga i.L) (λ_=> .own 1) (λi=>[yA i.b,.own 174 5 ((vy i.L (zF s) i.dm).map wT)])
def TX:gh:=xCq au
def TW:gh:=xCq ar
def atC:gh:=fp I' (λi=>[.nm 0 0,zB (zF i.s),zB i.dm]) (λi=>[yA i.b]) (λi=>i.b.ga i.L) (λ_=> .own 1) (λi=>[yA i.b,.own 174 5 ((vy i.L (zF i.s) i.dm).map wT)])
def xK (a:BO):=(a.b.iN 1 a.id a.dm)
@[reducible] def YJ (a:oL)(b:BO)(R:Prop):Prop:=av dv 3 zI a.b.a=zR b.b 1/\aa zD a.b.fv=aa zD b.b.fv/\aa zD a.b.fc=aa zD b.b.fc/\jv a.b.at_=CI (cg bo b.id) (jv b.b.at_)/\iE a.b.spare=iE b.b.spare/\(qS a)/\R
@[reducible] def Ij (a:vc)(b:Int)(c:dq)(R:Prop):Prop:=a.n=b/\av dv 3 zI a.a=av dv 3 zI c.a/\R
@[reducible] def Qd3 (a:BO)(b:dq)(c:vc)(R:Prop):Prop:=(xK a).iM=b.iM/\(xK a).iL=b.iL/\(xK a).gv=b.gv/\(xK a).gq=b.gq/\av dv 3 zI (xK a).a=av dv 3 zI c.a/\jv (xK a).at_=jv b.at_/\R
def zMa (a:oL) (b:BO):Prop:=a.b.gq=b.b.gq/\YJ a b (ff ((dF a)/\∃(d:Int),zC (aa zD a.b.fv) (qD a).toNat 1 1=az [dI d]/\∃(e:vc),Ij e d a.b (True/\ff (dp ((e.a.qn e.n).count==0) (((iE a.b.spare).length+1)*(8:Nat)<=(140737488355328:Nat)/\∃(g:LQ),(g.i:Int)=(qD a)/\(g.j:Int)=bo.wrap ((qD a)+1)/\g.fa=aa zD a.b.fv/\(g.i<g.j/\g.j<=g.fa.length)/\ff (dk ((1:Int))/\dx (Qd3 b a.b e (aa zD (xK b).fv=ab g.i g.fa++aq g.j g.fa/\aa zD (xK b).fc=aa zD a.b.fc/\iE (xK b).spare=iE a.b.spare++[[dI d]]/\True)))) (dx (Qd3 b a.b e (aa zD (xK b).fv=aa zD a.b.fv/\aa zD (xK b).fc=aa zD a.b.fc/\iE (xK b).spare=iE a.b.spare/\True)))))))
@[reducible] def Q7 (a b:dq)(R:Prop):Prop:=a.iM=b.iM/\a.iL=b.iL/\a.gv=b.gv/\R
def Z3 (a:BO):Prop:=∃(b:oL),dk ((1:Int))/\b.dm=a.dm/\Q7 b.b a.b (zMa b a)
def yVl (i:BO):Prop:=
 (∀(a:bu×List D),a∈jv i.b.at_->me (cg bo i.id) a.fst=ar)/\dp i.b.gv (dp (i.b.iM==i.id) (∃(a:oL),dk ((1:Int))/\a.dm=i.dm/\a.b.iM=i.b.iM/\a.b.iL=i.b.iL/\a.b.gv=au/\zMa a i) (Z3 i)) (Z3 i)
def xH (a:BO):=(a.b.iN 2 a.id a.dm)
@[reducible] def Qa2 (a:BO)(b:dq)(c:vc)(R:Prop):Prop:=(xH a).iM=b.iM/\(xH a).iL=b.iL/\(xH a).gv=b.gv/\(xH a).gq=b.gq/\av dv 3 zI (xH a).a=av dv 3 zI c.a/\jv (xH a).at_=jv b.at_/\aa zD (xH a).fv=aa zD b.fv/\R
def zNk (a:oL) (b:BO):Prop:=YJ a b (ff ((dM a)/\∃(d:Int),zC (aa zD a.b.fc) (qE a).toNat 1 1=az [dI d]/\∃(e:vc),Ij e d a.b (True/\ff (dp ((e.a.qn e.n).count==0) (((iE a.b.spare).length+1)*(8:Nat)<=(140737488355328:Nat)/\∃(g:LQ),(g.i:Int)=(qE a)/\(g.j:Int)=bo.wrap ((qE a)+1)/\g.fa=aa zD a.b.fc/\(g.i<g.j/\g.j<=g.fa.length)/\ff (dk ((2:Int))/\dx (Qa2 b a.b e (aa zD (xH b).fc=ab g.i g.fa++aq g.j g.fa/\iE (xH b).spare=iE a.b.spare++[[dI d]]/\True)))) (dx (Qa2 b a.b e (aa zD (xH b).fc=aa zD a.b.fc/\iE (xH b).spare=iE a.b.spare/\True)))))))
def zNl (a:BO):Prop:=∃(b:oL),dk ((2:Int))/\b.dm=a.dm/\Q7 b.b a.b (b.b.gq=a.b.gq/\zNk b a)
def ySo (i:BO):Prop:=
 (∀(a:bu×List D),a∈jv i.b.at_->me (cg bo i.id) a.fst=ar)/\dp i.b.gq (dp (i.b.iL==i.id) (∃(a:oL),dk ((2:Int))/\a.dm=i.dm/\Q7 a.b i.b (a.b.gq=au/\zNk a i)) (zNl i)) (zNl i)
def zGi (a:CY):Prop:=QP a.b (True)
def zHg (a:Int) (b:CY) (c:Int) (d:Int):Prop:=∃(e:vc),Ij e a b.b (e.a.du.length<=1000000/\ff (dx ((bL b.L b.id).id=b.id/\(bL b.L b.id).side=c/\(bL b.L b.id).dm=d/\(bL b.L b.id).dr=(e.a.nw e.n).fst.dr/\(bL b.L b.id).top=(e.a.nw e.n).fst.top/\vQ b.L b.id=ar/\Q9 b.b (av dv 3 zI b.b.a=av dv 3 zI e.a/\zGi b))))
def eQ (a:CY) (b:Int) (c:Int) (d:Int) (e:Bool):Prop:=jL (cg bo a.id) (jv a.b.at_)=az [dI b,dI c,dI d]/\e=ar\/jL (cg bo a.id) (jv a.b.at_)=ba/\[dI b,dI c,dI d]=[dI 0,dI 0,dI 0]/\e=au
def yQu (i:CY):Prop:=
 (∀(a:bu×List D),a∈jv i.b.at_->me (cg bo i.id) a.fst=ar)/\∃(a:Bool),∃(b:Int),∃(c:Int),∃(d:Int),(eQ i b c d a)/\dp (!a) (dx ((bL i.L i.id).id=0/\(bL i.L i.id).side=0/\(bL i.L i.id).dm=0/\(bL i.L i.id).dr=0/\(bL i.L i.id).top=au/\vQ i.L i.id=au/\Q9 i.b (dk (av dv 3 zI i.b.a)/\zGi i))) ((zHg d i b c)/\d=d/\True/\zHg d i b c)
def V9 (a:dq) (b:CY):Prop:=QR a b.b (a.ga (qK b.L b.id b.dr).fst)
def uK (a:DrJ):=(a.i.b.iN (zF a.s) a.i.id a.i.dm)
def Zu (a:CY) (b:Int) (c:Int) (d:Int) (e:vc):Prop:=∃(f:DrJ),f.i.id=a.id/\zF f.s=b/\f.i.dm=c/\f.i.slot=d/\Q7 f.i.b a.b (f.i.b.gq=a.b.gq/\av dv 3 zI f.i.b.a=av dv 3 zI e.a/\QR f.i.b a.b (((Q0 f.i.b.a f.i.b (f.i.b.spare.length<=1000000))/\yB (zF f.s) (f.i.b.dz (zF f.s)) f.i.dm<(f.i.b.dz (zF f.s)).length)/\ff (∃(h:dq),(qK a.L a.id a.dr).snd=0/\h.iM=(uK f).iM/\h.iL=(uK f).iL/\h.gv=(uK f).gv/\h.gq=(uK f).gq/\av dv 3 zI h.a=av dv 3 zI (uK f).a/\aa zD h.fv=aa zD (uK f).fv/\aa zD h.fc=aa zD (uK f).fc/\jv h.at_=jv (uK f).at_/\iE h.spare=iE (uK f).spare/\h.ga (qK a.L a.id a.dr).fst)))
def YT (a:Int) (b:Cs) (c:CY) (d:Int) (e:Int):Prop:=∃(f:vc),f.n=a/\av dv 3 zI f.a=av dv 3 zI (b.a.gw b.n b.dr).fst/\f.a.du.length<=1000000/\ff (dp (!(f.a.nw f.n).snd) (Zu c d e a f) (dp ((f.a.nw f.n).fst.id !=c.id) (Zu c d e a f) (∃(h:dq),(qK c.L c.id c.dr).snd=0/\Q7 h c.b (h.gq=c.b.gq/\av dv 3 zI h.a=av dv 3 zI f.a/\V9 h c))))
def y4k (i:CY):Prop:=
 (∀(a:bu×List D),a∈jv i.b.at_->me (cg bo i.id) a.fst=ar)/\∃(a:Bool),∃(b:Int),∃(c:Int),∃(d:Int),(eQ i b c d a)/\dp (!a) (∃(e:dq),(qK i.L i.id i.dr).snd=26/\Q7 e i.b (e.gq=i.b.gq/\av dv 3 zI e.a=av dv 3 zI i.b.a/\V9 e i)) (∃(e:Cs),e.n=d/\e.dr=i.dr/\av dv 3 zI e.a=av dv 3 zI i.b.a/\(e.a.du.length<=1000000/\∀(k:Nat) (s:Slot),e.a.du[k]?=az s->s.used=ar->(0<=s.queue/\s.queue<(e.a.dy.length:Int))/\s.dr<=1000000/\(s.ahead=(-1)\/0<=s.ahead/\s.ahead<(e.a.du.length:Int)/\s.ahead≠(k:Int))/\(s.back=(-1)\/0<=s.back/\s.back<(e.a.du.length:Int)/\s.back≠(k:Int)))/\ff (dp ((e.a.gw e.n e.dr).snd !=0) (∃(g:dq),(qK i.L i.id i.dr).snd=(e.a.gw e.n e.dr).snd/\Q7 g i.b (g.gq=i.b.gq/\av dv 3 zI g.a=av dv 3 zI (e.a.gw e.n e.dr).fst/\V9 g i)) ((YT d e i b c)/\d=d/\True/\YT d e i b c)))
@[reducible] def Qf (a:dq)(R:Prop):Prop:=a.iM=a.iM/\a.iL=a.iL/\a.gv=a.gv/\a.gq=a.gq/\av dv 3 zI a.a=av dv 3 zI a.a/\aa zD a.fv=aa zD a.fv/\aa zD a.fc=aa zD a.fc/\jv a.at_=jv a.at_/\iE a.spare=iE a.spare/\R
def xHa (i:I'):Prop:=
 ∃(a:Int),a=zF au/\True/\ff (dp (kW a) (dx (Qf i.b (aa wT (vy i.L (zF au) i.dm)=[]/\True))) (∃(c:oL),1=zF au/\c.dm=i.dm/\Qe c.b i.b ((qS c)/\ff (dp (!jT 1 (c.b.dz 1) c.dm) (dx (Qe i.b c.b (aa wT (vy i.L (zF au) i.dm)=[]/\True))) ((dF c)/\∃(e:Int),∃(f:Int),zC (aa zD c.b.fv) (qD c).toNat 0 2=az [dI e,dI f]/\∃(g:Fv),g.s=zF au/\g.r.dm=e/\g.r.queue=f/\Qe g.b c.b (g.b.a.qh g.r.queue g.l/\ff (dx (yA i.b=yA g.b/\aa wT (vy i.L (zF au) i.dm)=aa wT g.oA/\True))))))))
def xCp (i:I'):Prop:=
 ∃(a:Int),a=zF ar/\True/\ff (dp (kW a) (dx (Qf i.b (aa wT (vy i.L (zF ar) i.dm)=[]/\True))) (∃(c:oL),2=zF ar/\c.dm=i.dm/\Qe c.b i.b ((qS c)/\ff (dp (!jT 2 (c.b.dz 2) c.dm) (dx (Qe i.b c.b (aa wT (vy i.L (zF ar) i.dm)=[]/\True))) ((dM c)/\∃(e:Int),∃(f:Int),zC (aa zD c.b.fc) (qE c).toNat 0 2=az [dI e,dI f]/\∃(g:Fv),g.s=zF ar/\g.r.dm=e/\g.r.queue=f/\Qe g.b c.b (g.b.a.qh g.r.queue g.l/\ff (dx (yA i.b=yA g.b/\aa wT (vy i.L (zF ar) i.dm)=aa wT g.oA/\True))))))))
def eO {L:List zK} (h:(L.map (·.id)).Nodup) {o:zK} (ho:o∈L):bL L o.id=o:=by
 induction L with
 |nil=>cases ho
 |cons x L ih=>
  rw[jg,yz]at h;rw[bL,L9];rcases j'.1 ho with rfl|ho
  ·rw[jt rfl];rfl
  ·have:x.id≠o.id:=λe=>h.1 (e▸sv (f:=(·.id)) ho)
   rw[ju this];exact ih h.2 ho
def nU {α β:Type} {f g:α->Option β}:∀{l:List α},(∀x∈l,f x=g x)->l.filterMap f=l.filterMap g
 |[],_=>rfl
 |x::l,h=>by rw[List.filterMap_cons,List.filterMap_cons,h x iY,nU λy hy=>h y (jj _ hy)]
def xAu {L:List zK} {id:Int} (h:vQ L id=au):bL L id=y9v:=by
 rw[bL];have:L.find? (λo=>decide (o.id=id))=ba:=by
  rw[ae];intro o ho;rw[vQ,Mf]at h;exact h o ho
 rw[this];rfl
structure Told (b:dq) (Q:Q_ Nat) (id:Int) (s:Int) (r:xX) (k:Nat):Prop where
 hs:s=1\/s=2
 hr:r∈b.dz s
 hk:k∈xL Q r
 e:lh b.at_ id=az ⟨s,r.dm,k⟩
 ident:(b.a.fg k).id=id
 get:bL (b.flat Q) id=uE b.a s r.dm k
 has:vQ (b.flat Q) id=ar
def yYc {b:dq} {Q:Q_ Nat} {s:Int} (hs:s=1\/s=2) {r:xX} (hr:r∈b.dz s) {k:Nat} (hk:k∈xL Q r):uE b.a s r.dm k∈b.flat Q:=
 Ce hs (Bf.2 ⟨r,hr,sv hk⟩)
def dq.Core.told {b:dq} {Q:Q_ Nat} (c:b.Core Q (-1)) (id:Int):(lh b.at_ id=ba/\vQ (b.flat Q) id=au)\/∃s r k,Told b Q id s r k:=by
 cases hg:lh b.at_ id with
 |none=>
  have:=zLe hg;rw[c.Ao.mem_iff,<- ku]at this;exact .inl ⟨rfl,i9 this⟩
 |some x=>
  obtain⟨k,r,hs,hr,hk,hx,Bn⟩:=c.Ti (P' hg);have hm:=yYc hs hr hk;have kq:=eO c.ids hm;have e:(uE b.a x.side r.dm k).id=id:=Bn;rw[e]at kq;exact .inr ⟨x.side,r,k,hs,hr,hk,by rw[hg];exact congrArg az hx,Bn,kq,ku.2 (by rw[<- e];exact sv hm)⟩
def Told.only {b:dq} {Q:Q_ Nat} (c:b.Core Q (-1)) {id s:Int} {r:xX} {k:Nat} (h:Told b Q id s r k) {s':Int} (iQ:s'=1\/s'=2) {r':xX} (oy:r'∈b.dz s') {j:Nat} (hj:j∈xL Q r'):(b.a.fg j).id=id↔j=k:=by
 constructor
 ·intro e;have h1:=c.FT iQ oy hj;have h2:=c.FT h.hs h.hr h.hk;rw[e]at h1;rw[h.ident]at h2;have:=congrArg Place.slot (UT c.keys h1 h2);dsimp only at this;omega
 ·rintro rfl;exact h.ident
def dq.Core.less {b:dq} {Q:Q_ Nat} (c:b.Core Q (-1)) (ht:b.BX (b.flat Q)) {id s:Int} {r:xX} {k:Nat} (h:Told b Q id s r k) {q:Int} (hq:1<=q/\q<(b.a.fg k).dr):
 (b.a.gw k q).2=0/\({b with a:=(b.a.gw k q).1}:dq).ga (wZ (b.flat Q) id q)/\(b.a.gw k q).1.du.length=250/\(b.a.gw k q).1.nw k=((((b.a.gw k q).1.fg k)).qd,ar)/\((b.a.gw k q).1.fg k).id=id:=by
 obtain⟨t1,t2,t3⟩:=c.wf.take (c.get h.hs h.hr) h.hk (q:=q) ⟨hq.1,oM⟩;rw[eg X_]at t3;obtain⟨w,t4,t5⟩:=t3;have EH:∀j,((b.a.gw k q).1.fg j).qd=if j=k then{(b.a.fg k).qd with dr:=(b.a.fg k).dr-q}else(b.a.fg j).qd:=by
  intro j;split
  ·rename_i e;rw[e,t4];rfl
  ·rename_i e;exact(t2 j e).1
 have Bn:∀j,((b.a.gw k q).1.fg j).id=(b.a.fg j).id:=by
  intro j;have:=congrArg Ex.id (EH j);split at this
  ·rename_i e;rw[e]at this ⊢;exact this
  ·exact this
 have sm:({b with a:=(b.a.gw k q).1}:dq).flat Q=wZ (b.flat Q) id q:=by
  have side:∀s',s'=1\/s'=2->({b with a:=(b.a.gw k q).1}:dq).iv Q s'=wZ (b.iv Q s') id q:=by
   intro s' iQ;rw[wZ,dq.iv,dq.iv,List.filterMap_flatMap];refine xM λr' oy=> ?_
   rw[dq.ig,dq.ig,List.filterMap_map];have:(xL Q r').filterMap (λj=>az (uE (b.a.gw k q).1 s' r'.dm j))=(xL Q r').map (uE (b.a.gw k q).1 s' r'.dm):=by rw[<- List.filterMap_eq_map];rfl
   refine this.symm.trans (nU λj hj=> ?_);simp only[cm,uE,yQh,EH];have Yk:=h.only c iQ oy hj;by_cases e:j=k
   ·subst e;rw[fh rfl];refine((fh (show(b.a.fg j).qd.id=id from h.ident)).trans (eg λe=> ?_)).symm;have e:(b.a.fg j).dr=q:=e;omega
   ·rw[eg e];exact(eg (λe2=>e (Yk.1 e2))).symm
  rw[dq.flat,side 1 (.inl rfl),side 2 (.inr rfl),dq.flat,wZ,wZ,wZ,List.filterMap_append]
 have hu:(b.a.gw k q).1.iz k=ar:=by
  obtain⟨o5,⟨_,_,h2⟩,h3⟩:=w.toze.mem (c.get h.hs h.hr) h.hk;have gr:=w.len;simp only[dv.iz,lu,ua,ov];exact⟨oM,oM,h2.used⟩
 refine⟨t1,⟨Q,c.flag w Bn,⟨λo ho=> ?_,λs' iQ hh=> ?_⟩,sm.symm⟩,w.len,by rw[dv.nw,fh hu,ov],by rw[Bn,h.ident]⟩
 ·obtain⟨o',oK,e⟩:=OD.1 ho;have:=ht.fl o' oK;split at e
  ·split at e
   ·cases e
   ·cases e;exact this
  ·cases e;exact this
 ·obtain⟨o,ho,o1,o2⟩:=ht.th s' iQ hh;by_cases e:o.id=id
  ·refine⟨{o with dr:=o.dr-q},OD.2 ⟨o,ho,?_⟩,o1,o2⟩;have hg:=eO c.ids ho;rw[e,h.get]at hg;rw[fh e,eg (λe2=>by
    rw[<- hg]at e2;have:(b.a.fg k).dr=q:=e2;omega)]
  ·exact⟨o,OD.2 ⟨o,ho,eg e⟩,o1,o2⟩
def yDt:∀{l:List (Int×Place)} {k:Int},(l.map (·.1)).Nodup->rS k l=l.filter λx=> !decide (x.1=k)
 |[],k,_=>rfl
 |(a,b)::l,k,h=>by
  rw[jg,yz]at h;rw[rS];by_cases e:k=a
  ·subst e;rw[fh rfl,RR (by simp)];symm;rw[II];intro x hx;have:x.1≠k:=λe=>h.1 (e▸sv (f:=(·.1)) hx)
   simp[this]
  ·rw[eg e,RS (by simp[Ne.symm e]),yDt h.2]
def zLa {l:List Nat} (h:l.Nodup) (k:Nat):l.erase k=l.filter λj=> !decide (j=k):=by
 rw[h.erase_eq_filter];refine af λj _=> ?_
 simp[bne,BEq.beq]
def yVr {s:Int} {l:List xX} (hs:l.Pairwise λr r'=>jo s r.dm r'.dm=ar) {R1 R2:List xX} {r:xX} (hl:l=R1++r::R2):yB s l r.dm=R1.length:=by
 subst hl;rw[ac]at hs;refine rW (by simp) (λk hk x hx=> ?_) (λx hx=> ?_)
 ·rw[Ek hk]at hx;exact hs.2.2 x (kx hx) r iY
 ·rw[Ck (jx _),J6]at hx;cases hx;exact N6 _ _
def yRo (b:dq) (id:Int) {s:Int} (hs:s=1\/s=2):(b.ki s id).a=b.a/\(b.ki s id).fv=b.fv/\(b.ki s id).fc=b.fc/\(b.ki s id).spare=b.spare/\∀s',s'=1\/s'=2->(b.ki s id).jc s'=b.jc s'/\(b.ki s id).nf s'=if s'=s/\b.jc s=id then au else b.nf s':=by
 rw[dq.ki];by_cases hc:b.nf s=ar/\b.jc s=id
 ·rw[fh hc];rcases hs with rfl|rfl
  ·exact(nh (λs' h=>by rcases h with rfl|rfl;exact⟨rfl,(fh ⟨rfl,hc.2⟩).symm⟩;exact⟨rfl,(eg (λe=>absurd e.1 Z8)).symm⟩))
  ·exact(nh (λs' h=>by rcases h with rfl|rfl;exact⟨rfl,(eg (λe=>absurd e.1 Z8)).symm⟩;exact⟨rfl,(fh ⟨rfl,hc.2⟩).symm⟩))
 ·rw[eg hc];refine(nh (λs' h=>⟨rfl,?_⟩));split
  ·rename_i e;rw[e.1];cases hh:b.nf s with
   |false=>rfl
   |true=>exact absurd ⟨hh,e.2⟩ hc
  ·rfl
def dq.Core.close {b:dq} {Q:Q_ Nat} {s:Int} (hs:s=1\/s=2) {r:xX} {R1 R2:List xX} (hr:b.dz s=R1++r::R2) (c:b.Core Q r.queue) (he:xL Q r=[]) {b':dq} (hb:b'=({b with spare:=b.spare++[r.queue]}:dq).rl s (R1++R2)):
 b'.Core Q (-1)/\b'.flat Q=b.flat Q:=by
 obtain⟨g1,g2⟩:=zVc ({b with spare:=b.spare++[r.queue]}:dq) hs (R1++R2);rw[<- hb]at g1 g2;have ha:b'.a=b.a:=by rw[hb];rcases hs with rfl|rfl<;>rfl
 have tf:b'.at_=b.at_:=by rw[hb];rcases hs with rfl|rfl<;>rfl
 have ue:b'.spare=b.spare++[r.queue]:=by rw[hb];rcases hs with rfl|rfl<;>rfl
 have FY:b'.qs.Perm b.qs:=by
  rw[hb];rcases hs with rfl|rfl
  ·have hr:b.fv=R1++r::R2:=hr;show((R1++R2).map (·.queue)++b.fc.map (·.queue)++(b.spare++[r.queue])).Perm (b.fv.map (·.queue)++b.fc.map (·.queue)++b.spare)
   rw[hr,<- jd];refine(RV _ _).trans ?_;simp only[jh,jg,jd,uu];exact mu.symm
  ·have hr:b.fc=R1++r::R2:=hr;show(b.fv.map (·.queue)++(R1++R2).map (·.queue)++(b.spare++[r.queue])).Perm (b.fv.map (·.queue)++b.fc.map (·.queue)++b.spare)
   rw[hr,<- jd];refine(RV _ _).trans ?_;simp only[jh,jg,jd,uu];refine .trans ?_ (cp _ mu.symm);exact mu.symm
 have o7:∀s',s'=1\/s'=2->b'.iv Q s'=b.iv Q s':=by
  intro s' iQ;have ho:∀x,b'.ig Q s' x=b.ig Q s' x:=λx=>by rw[dq.ig,dq.ig,ha]
  rw[dq.iv,dq.iv];by_cases e:s'=s
  ·subst e;rw[g1,hr,zh,zh,vw,xM (λx _=>ho x),xM (l:=R2) (λx _=>ho x)];rw[show b.ig Q s' r=[]by rw[dq.ig,he];rfl,wy]
  ·rw[g2 s' e iQ];exact xM λx _=>ho x
 have zx:∀s',s'=1\/s'=2->b'.mr Q s'=b.mr Q s':=by
  intro s' iQ;rw[dq.mr,dq.mr,ha];by_cases e:s'=s
  ·subst e;rw[g1,hr,zh,zh,vw,he,Bz,wy]
  ·rw[g2 s' e iQ];rfl
 have sm:b'.flat Q=b.flat Q:=by rw[dq.flat,dq.flat,o7 1 (.inl rfl),o7 2 (.inr rfl)]
 have rj:=FY.nodup_iff.2 c.nd;have aaF:r.queue∉(R1++R2).map (·.queue):=by
  intro hm;have h1:r.queue∈(b'.dz s).map (·.queue):=by rw[g1];exact hm
  rw[dq.qs]at rj;have h2:=(AB.1 rj).2.2 r.queue (by
   rcases hs with rfl|rfl
   ·exact za _ h1
   ·exact Af _ h1) r.queue (by rw[ue];simp)
  exact h2 rfl
 refine⟨⟨by rw[ha];exact c.wf,λs' iQ=> ?_,λq hq=>c.uw q (FY.mem_iff.1 hq),rj,by rw[FY.length_eq];exact c.ql,λs' iQ x hx _=> ?_,λq hq=> ?_,by rw[tf,zx 1 (.inl rfl),zx 2 (.inr rfl)];exact c.at_,by rw[sm];exact c.ids,c.qb⟩,sm⟩
 ·by_cases e:s'=s
  ·subst e;have:=c.xw s' iQ;rw[hr]at this;rw[g1];exact this.sublist (List.Sublist.append_left (List.sublist_cons_self _ _) _)
  ·rw[g2 s' e iQ];exact c.xw s' iQ
 ·by_cases e:s'=s
  ·subst e;rw[g1]at hx;refine c.ne s' iQ x (by rw[hr];rcases oH.1 hx with h|h;exact za _ h;exact Af _ (jj _ h)) λe2=>aaF (e2▸sv (f:=(·.queue)) hx)
  ·rw[g2 s' e iQ]at hx;refine c.ne s' iQ x hx λe2=> ?_
   have h1:r.queue∈(b'.dz s').map (·.queue):=by rw[g2 s' e iQ,<- e2];exact sv (f:=(·.queue)) hx
   rw[dq.qs]at rj;exact(AB.1 rj).2.2 r.queue (by
    rcases iQ with rfl|rfl
    ·exact za _ h1
    ·exact Af _ h1) r.queue (by rw[ue];simp) rfl
 ·rw[ue]at hq;rcases oH.1 hq with hq|hq
  ·exact c.sp q hq
  ·rw[tq.1 hq];exact he
def zWu {L:List zK} (h:(L.map (·.id)).Nodup) {id:Int} (hh:vQ L id=ar):wZ L id (bL L id).dr=L.filter λo=> !decide (o.id=id):=by
 rw[wZ,<- List.filterMap_eq_filter];refine nU λo ho=> ?_
 by_cases e:o.id=id
 ·have hg:=eO h ho;rw[e]at hg;rw[fh e,fh (by rw[hg])];simp[Option.guard,e]
 ·rw[eg e];simp[Option.guard,e]
def dq.Core.gone {b:dq} {Q:Q_ Nat} (c:b.Core Q (-1)) (ht:b.BX (b.flat Q)) {id s:Int} {r:xX} {k:Nat} (h:Told b Q id s r k) {q:Int} (hq:1<=q/\q=(b.a.fg k).dr):
 (b.a.gw k q).2=0/\(({b with a:=(b.a.gw k q).1}:dq).iN s id r.dm).ga (wZ (b.flat Q) id q)/\(b.a.gw k q).1.du.length=250/\(b.a.gw k q).1.dy.length=b.a.dy.length/\((b.a.gw k q).1.nw k).2=au/\yB s (b.dz s) r.dm<(b.dz s).length:=by
 obtain⟨t1,t2,t3⟩:=c.wf.take (c.get h.hs h.hr) h.hk (q:=q) ⟨hq.1,oM⟩;rw[fh hq.2.symm]at t3;obtain⟨w,t4,t5⟩:=t3;generalize hA:(b.a.gw k q).1=a1 at*;have kq:=c.get h.hs h.hr;have F1:=(jk.1 kq).1;have OX:=c.uw _ (g7 h.hs h.hr);generalize SN:Q.set r.queue.toNat ((xL Q r).erase k)=Q' at*;have Kw:Q'.length=Q.length:=by rw[<- SN,qj]
 have rj:(xL Q r).Nodup:=c.wf.nd _ _ kq;have FZ:∀s' (r':xX),(s'=1\/s'=2)->r'∈b.dz s'->xL Q' r'=(xL Q r').erase k:=by
  intro s' r' iQ oy;by_cases e:r'.queue=r.queue
  ·have e1:xL Q r'=xL Q r:=by rw[xL,xL,e]
   rw[e1,xL,e,<- SN];exact zX (cN F1)
  ·have h2:xL Q' r'=xL Q r':=by
    have:=c.uw _ (g7 iQ oy);rw[xL,xL,mz,mz,<- SN,hU X_]
   rw[h2];symm;refine List.erase_of_not_mem λhk=> ?_
   have:=c.wf.toze.one (c.get iQ oy) kq hk h.hk;have:=c.uw _ (g7 iQ oy);omega
 have hQo:∀q:Int,0<=q->q≠r.queue->Q'.getD q.toNat []=Q.getD q.toNat []:=by
  intro q h0 jy;rw[<- SN,mz,hU X_,mz]
 obtain⟨u1,u2,u3,u4,u5⟩:=yRo ({b with a:=a1}:dq) id h.hs;obtain⟨b1,qk⟩:∃b1:dq,b1={({b with a:=a1}:dq).ki s id with at_:=rS id b.at_}:=⟨_,rfl⟩
 have v1:b1.a=a1:=by rw[qk];exact u1
 have v2:b1.fv=b.fv:=by rw[qk];exact u2
 have v3:b1.fc=b.fc:=by rw[qk];exact u3
 have v4:b1.spare=b.spare:=by rw[qk];exact u4
 have v5:b1.at_=rS id b.at_:=by rw[qk]
 have v6:∀s',s'=1\/s'=2->b1.jc s'=b.jc s'/\b1.nf s'=if s'=s/\b.jc s=id then au else b.nf s':=by
  intro s' iQ;rw[qk];exact u5 s' iQ
 have vr:∀s',b1.dz s'=b.dz s':=by intro s';rw[dq.dz,dq.dz,v2,v3]
 have vq:b1.qs=b.qs:=by rw[dq.qs,dq.qs,v2,v3,v4]
 have AU:∀s',s'=1\/s'=2->b1.iv Q' s'=(b.iv Q s').filter (λo=> !decide (o.id=id))/\b1.mr Q' s'=(b.mr Q s').filter λx=> !decide (x.1=id):=by
  intro s' iQ;rw[dq.iv,dq.iv,dq.mr,dq.mr,vr,List.filter_flatMap,List.filter_flatMap];have key:∀r'∈b.dz s',∀j∈xL Q r',((b.a.fg j).id=id↔j=k)/\(j≠k->uE a1 s' r'.dm j=uE b.a s' r'.dm j/\uS a1 s' r'.dm j=uS b.a s' r'.dm j):=by
   intro r' oy j hj;refine⟨h.only c iQ oy hj,λe=> ?_⟩;have:=(t2 j e).1;refine⟨by rw[uE,uE,this],?_⟩;have:=congrArg Ex.id this;rw[uS,uS];exact congrArg (λi=>(i,(⟨s',r'.dm,j⟩:Place))) this
  refine⟨xM λr' oy=> ?_,xM λr' oy=> ?_⟩
  ·rw[dq.ig,dq.ig,FZ s' r' iQ oy,zLa (c.wf.nd _ _ (c.get iQ oy)),ag,v1];have e1:(xL Q r').filter ((λo:zK=> !decide (o.id=id))∘uE b.a s' r'.dm)=(xL Q r').filter λj=> !decide (j=k):=by
    refine af λj hj=> ?_
    show(!decide ((b.a.fg j).id=id))=_;rw[decide_eq_decide.2 (key r' oy j hj).1]
   rw[e1];refine uk λj hj=> ?_
   rw[vi]at hj;exact((key r' oy j hj.1).2 (by simpa using hj.2)).1
  ·rw[FZ s' r' iQ oy,zLa (c.wf.nd _ _ (c.get iQ oy)),ag,v1];have e1:(xL Q r').filter ((λx:Int×Place=> !decide (x.1=id))∘uS b.a s' r'.dm)=(xL Q r').filter λj=> !decide (j=k):=by
    refine af λj hj=> ?_
    show(!decide ((b.a.fg j).id=id))=_;rw[decide_eq_decide.2 (key r' oy j hj).1]
   rw[e1];refine uk λj hj=> ?_
   rw[vi]at hj;exact((key r' oy j hj.1).2 (by simpa using hj.2)).2
 have sm:b1.flat Q'=(b.flat Q).filter λo=> !decide (o.id=id):=by
  rw[dq.flat,(AU 1 (.inl rfl)).1,(AU 2 (.inr rfl)).1,dq.flat,CL]
 have tf:b1.at_.Perm (b1.mr Q' 1++b1.mr Q' 2):=by
  rw[v5,yDt c.keys,(AU 1 (.inl rfl)).2,(AU 2 (.inr rfl)).2,<- CL];exact c.at_.filter _
 have hold:∀s' (r':xX),(s'=1\/s'=2)->r'∈b.dz s'->xL Q r'≠[]:=λs' r' iQ oy=>c.ne s' iQ r' oy λe=>by
  have:=c.uw _ (g7 iQ oy);omega
 have c1:b1.Core Q' r.queue:=by
  refine⟨by rw[v1];exact w,λs' iQ=>by rw[vr];exact c.xw s' iQ,by rw[vq,Kw];exact c.uw,by rw[vq];exact c.nd,by rw[vq,Kw];exact c.ql,λs' iQ r' oy jy=> ?_,λq hq=> ?_,tf,?_,by rw[Kw];exact c.qb⟩
  ·rw[vr]at oy;have e:=hQo r'.queue (c.uw _ (g7 iQ oy)).1 jy;rw[xL,e];exact hold s' r' iQ oy
  ·rw[v4]at hq;have O0:q∈b.qs:=Af _ hq;rw[hQo q (c.uw q O0).1 λe=> ?_]
   ·exact c.sp q hq
   ·have AK:=c.nd;rw[dq.qs]at AK;refine(AB.1 AK).2.2 r.queue ?_ q hq e.symm;rcases h.hs with rfl|rfl
    ·exact za _ (sv (f:=(·.queue)) h.hr)
    ·exact Af _ (sv (f:=(·.queue)) h.hr)
  ·rw[sm];exact c.ids.sublist (List.Sublist.map _ RL)
 have htk:wZ (b.flat Q) id q=b1.flat Q':=by
  rw[sm,<- zWu c.ids h.has,h.get,hq.2];rfl
 have hm1:∀o,o∈b1.flat Q'↔o∈b.flat Q/\o.id≠id:=by
  intro o;rw[sm,vi];simp
 have ht1:∀b2:dq,(∀x,b2.nf x=b1.nf x/\b2.jc x=b1.jc x)->b2.BX (b1.flat Q'):=by
  intro b2 np;refine⟨λo ho=> ?_,λs' iQ hh=> ?_⟩
  ·rw[(np _).1,(np _).2];obtain⟨ho,jy⟩:=(hm1 o).1 ho;have iQ:=(sM ho).1;rw[(v6 _ iQ).1,(v6 _ iQ).2,ht.fl o ho];split
   ·rename_i e;rw[e.1,e.2,ju jy,J7,J7]
   ·rfl
  ·rw[(np _).1,(v6 s' iQ).2]at hh;rw[(np _).2,(v6 s' iQ).1];split at hh
   ·cases hh
   ·rename_i e;obtain⟨o,ho,o1,o2⟩:=ht.th s' iQ hh;refine⟨o,(hm1 o).2 ⟨ho,λe2=>e ?_⟩,o1,o2⟩;have hg:=eO c.ids ho;rw[e2,h.get]at hg;have Fb:s'=s:=by rw[<- o1,<- hg];rfl
    exact⟨Fb,by rw[<- Fb,<- o2,e2]⟩
 obtain⟨R1,R2,pd⟩:=List.append_of_mem h.hr;have F3:=yVr (c.xw s h.hs) pd;have qx:(b.dz s).getD (yB s (b.dz s) r.dm) ⟨0,0⟩=r:=by
  rw[F3,pd];refine zX ?_;rw[Ck (jx _),J6];rfl
 have BI:yB s (b.dz s) r.dm<(b.dz s).length:=by rw[F3,pd];simp
 have hQr:Q'[r.queue.toNat]? =az ((xL Q r).erase k):=by rw[<- SN];exact cN F1
 have Nr:(a1.qn r.queue).count=((xL Q r).erase k).length:=by
  have:=w.q _ _ hQr;have IV:=w.ql;rw[W6 OX.1 this]
 have er:xL Q' r=(xL Q r).erase k:=zX hQr;have hru:({b with a:=a1}:dq).dz s=b.dz s:=rfl;have Sk:(a1.nw k).2=au:=by
  have:a1.iz k=au:=by
   have e:a1.fg k=iK:=t4;rw[dv.fg]at e;rw[dv.iz,ov,e];simp[iK]
  rw[dv.nw,eg (by rw[this];decide)]
 refine⟨t1,?_,w.len,by rw[w.ql,c.wf.ql,Kw],Sk,BI⟩;rw[dq.iN,hru,qx];by_cases hz:(a1.qn r.queue).count=0
 ·rw[fh hz];have he:xL Q' r=[]:=by
   rw[er];refine ye ?_;omega
  obtain⟨k1,k2⟩:=dq.Core.close h.hs (by rw[vr];exact pd) c1 he rfl;have ebk:(({({b with a:=a1}:dq).ki s id with at_:=rS id b.at_,spare:=b.spare++[r.queue]}:dq).rl s ((b.dz s).take (yB s (b.dz s) r.dm)++(b.dz s).drop (yB s (b.dz s) r.dm+1)))=(({b1 with spare:=b1.spare++[r.queue]}:dq).rl s (R1++R2)):=by
   have e1:(b.dz s).take (yB s (b.dz s) r.dm)++(b.dz s).drop (yB s (b.dz s) r.dm+1)=R1++R2:=by
    rw[F3,pd,J8];congr 1;rw[Me,IK X_,Nat.add_sub_cancel_left];rfl
   rw[e1,v4,qk]
  refine⟨Q',?_,?_,?_⟩
  ·exact ebk▸k1
  ·rw[htk];refine ht1 _ λx=> ?_
   show(dq.nf (({({b with a:=a1}:dq).ki s id with at_:=rS id b.at_,spare:=b.spare++[r.queue]}:dq).rl s ((b.dz s).take (yB s (b.dz s) r.dm)++(b.dz s).drop (yB s (b.dz s) r.dm+1))) x=_/\dq.jc (({({b with a:=a1}:dq).ki s id with at_:=rS id b.at_,spare:=b.spare++[r.queue]}:dq).rl s ((b.dz s).take (yB s (b.dz s) r.dm)++(b.dz s).drop (yB s (b.dz s) r.dm+1))) x=_);rw[ebk];rcases h.hs with rfl|rfl<;>exact⟨rfl,rfl⟩
  ·rw[htk];show _=dq.flat (({({b with a:=a1}:dq).ki s id with at_:=rS id b.at_,spare:=b.spare++[r.queue]}:dq).rl s ((b.dz s).take (yB s (b.dz s) r.dm)++(b.dz s).drop (yB s (b.dz s) r.dm+1))) Q';rw[ebk];exact k2.symm
 ·rw[eg hz];have c2:b1.Core Q' (-1):=⟨c1.wf,c1.xw,c1.uw,c1.nd,c1.ql,λs' iQ r' oy _=>by
   by_cases e:r'.queue=r.queue
   ·rw[xL,e];intro e2;rw[xL]at er;rw[er]at e2;rw[Nr,e2]at hz;exact hz rfl
   ·exact c1.ne s' iQ r' oy e,c1.sp,c1.at_,c1.ids,c1.qb⟩
  have hh:({({b with a:=a1}:dq).ki s id with at_:=rS id b.at_}:dq)=b1:=qk.symm;show dq.ga {({b with a:=a1}:dq).ki s id with at_:=rS id b.at_} _;rw[hh,htk];exact⟨Q',c2,ht1 b1 λ_=>⟨rfl,rfl⟩,rfl⟩
def LM (k:Int):∀l,CI (cg bo k) (jv l)=jv (rS k l)
 |[]=>rfl
 |(a,b)::l=>by
  have ih:=LM k l;show(bif (xm .i64 .i64 && decide (k=a))then jv l else _::CI _ (jv l))=_;rw[ih,rS];by_cases h:k=a
  ·subst h;simp[xm]
  ·simp[h,jv]
def yEg:UI.ok Z_ 270:=
 D' mixed func270 rfl (by kernel_rfl) (by kernel_rfl) (by kernel_rfl) (by kernel_rfl) Z1 rfl Z8 (λs sn sk i j w R=>by kernel_rfl)
def dup {X:Prop} {n:Int} (h:X):X/\n=n/\True/\X:=⟨h,rfl,Y_,h⟩
def dq.Core.small {b:dq} {Q:Q_ Nat} (c:b.Core Q (-1)):b.small:=by
 have hq:=c.qb;have h1:=c.ql;have h2:=c.wf.ql;have h3:=c.wf.len;rw[dq.qs,ix,ix,ib,ib]at h1;exact⟨⟨oM,oM⟩,oM,oM,oM⟩
def xBo (i:BO) (h:G2.dp i):yVl i:=by
 obtain⟨qw,hn⟩:i.ok 1:=h;obtain⟨⟨ha1,Mw⟩,qk,np,ue⟩:=id qw;have hn:yB 1 i.b.fv i.dm<i.b.fv.length:=hn;obtain⟨r,hr⟩:=zZ (l:=i.b.fv) hn;have qx:((i.b.dz 1).getD (yB 1 (i.b.dz 1) i.dm) ⟨0,0⟩)=r:=zX hr;have hw:∀k:Int,bo.wrap ((yB 1 (i.b.dz 1) i.dm:Int)+1)=((yB 1 (i.b.dz 1) i.dm+1:Nat):Int):=λ_=>by
  have:=VH 1 i.dm (i.b.dz 1);have hl:(i.b.dz 1).length<=1000000:=by show i.b.fv.length<=_;omega
  rw[iw X_];rfl
 have Mp:((yB 1 (i.b.dz 1) i.dm:Nat):Int)<((aa zD i.b.fv).length:Int):=by
  rw[ib];show((yB 1 i.b.fv i.dm:Nat):Int)<_;omega
 unfold yVl Z3 Q7 zMa YJ Ij Qd3 ff dx dF u9 qS Q0 qD xK dI;refine⟨vB _ _,W_ (λc1=>W_ (λc2=> ?_) (λc2=> ?_)) (λc1=> ?_)⟩
 ·have c2:i.b.iM=i.id:=i9 c2
  have hu:i.b.ki 1 i.id={i.b with gv:=au}:=by rw[dq.ki,fh ⟨c1,c2⟩];rfl
  refine⟨⟨{i.b with gv:=au,at_:=rS i.id i.b.at_},i.dm⟩,iB ⟨rfl,(LM _ _).symm,rfl,qw,λ_ _=>⟨⟨oM,Mp⟩,r.queue,jz hr (by simp[zD]) rfl,⟨i.b.a,r.queue⟩,rfl,rfl,Y_,λ_ _=>W_ (λe=>⟨by simp only[y9];omega,⟨i.b.fv.map zD,yB 1 (i.b.dz 1) i.dm,yB 1 (i.b.dz 1) i.dm+1⟩,rfl,(hw 0).symm,rfl,⟨Mc _,by rw[ib];exact hn⟩,λ_ _=>⟨rfl,(),?_⟩⟩) (λe=>⟨(),?_⟩)⟩⟩⟩
  ·have e:(i.b.a.qn r.queue).count=0:=i9 e
   rw[dq.iN,qx,fh e,hu];refine(tr ⟨rfl,?_,rfl,?_,Y_⟩)
   ·show aa zD (i.b.fv.take _++i.b.fv.drop _)=_;rw[jh,Eh,FK]
   ·show iE (i.b.spare++[r.queue])=_;simp[iE]
  ·have e:¬(i.b.a.qn r.queue).count=0:=i9 e
   rw[dq.iN,qx,eg e,hu];exact(nu (iP Y_))
 ·have c2:¬i.b.iM=i.id:=i9 c2
  have hu:i.b.ki 1 i.id={i.b with gv:=i.b.gv}:=by rw[dq.ki,eg (λe=>c2 e.2)]
  refine⟨⟨{i.b with gv:=i.b.gv,at_:=rS i.id i.b.at_},i.dm⟩,iB ⟨rfl,(LM _ _).symm,rfl,qw,λ_ _=>⟨⟨oM,Mp⟩,r.queue,jz hr (by simp[zD]) rfl,⟨i.b.a,r.queue⟩,rfl,rfl,Y_,λ_ _=>W_ (λe=>⟨by simp only[y9];omega,⟨i.b.fv.map zD,yB 1 (i.b.dz 1) i.dm,yB 1 (i.b.dz 1) i.dm+1⟩,rfl,(hw 0).symm,rfl,⟨Mc _,by rw[ib];exact hn⟩,λ_ _=>⟨rfl,(),?_⟩⟩) (λe=>⟨(),?_⟩)⟩⟩⟩
  ·have e:(i.b.a.qn r.queue).count=0:=i9 e
   rw[dq.iN,qx,fh e,hu];refine(tr ⟨rfl,?_,rfl,?_,Y_⟩)
   ·show aa zD (i.b.fv.take _++i.b.fv.drop _)=_;rw[jh,Eh,FK]
   ·show iE (i.b.spare++[r.queue])=_;simp[iE]
  ·have e:¬(i.b.a.qn r.queue).count=0:=i9 e
   rw[dq.iN,qx,eg e,hu];exact(nu (iP Y_))
 ·have hu:i.b.ki 1 i.id={i.b with gv:=i.b.gv}:=by
   rw[dq.ki,eg];rintro⟨e,_⟩;exact absurd (show i.b.gv=ar from e) (by rw[c1];decide)
  refine⟨⟨{i.b with gv:=i.b.gv,at_:=rS i.id i.b.at_},i.dm⟩,iB ⟨rfl,(LM _ _).symm,rfl,qw,λ_ _=>⟨⟨oM,Mp⟩,r.queue,jz hr (by simp[zD]) rfl,⟨i.b.a,r.queue⟩,rfl,rfl,Y_,λ_ _=>W_ (λe=>⟨by simp only[y9];omega,⟨i.b.fv.map zD,yB 1 (i.b.dz 1) i.dm,yB 1 (i.b.dz 1) i.dm+1⟩,rfl,(hw 0).symm,rfl,⟨Mc _,by rw[ib];exact hn⟩,λ_ _=>⟨rfl,(),?_⟩⟩) (λe=>⟨(),?_⟩)⟩⟩⟩
  ·have e:(i.b.a.qn r.queue).count=0:=i9 e
   rw[dq.iN,qx,fh e,hu];refine(tr ⟨rfl,?_,rfl,?_,Y_⟩)
   ·show aa zD (i.b.fv.take _++i.b.fv.drop _)=_;rw[jh,Eh,FK]
   ·show iE (i.b.spare++[r.queue])=_;simp[iE]
  ·have e:¬(i.b.a.qn r.queue).count=0:=i9 e
   rw[dq.iN,qx,eg e,hu];exact(nu (iP Y_))
def yVh:G2.ok Z_ 234:=gy mixed (dw ZO (dw sX (dw yEg fk))) 0 i6 i6 [] func234 xBo
def xAq (i:BO) (h:G1.dp i):ySo i:=by
 obtain⟨qw,hn⟩:i.ok 2:=h;obtain⟨⟨ha1,Mw⟩,qk,np,ue⟩:=id qw;have hn:yB 2 i.b.fc i.dm<i.b.fc.length:=hn;obtain⟨r,hr⟩:=zZ (l:=i.b.fc) hn;have qx:((i.b.dz 2).getD (yB 2 (i.b.dz 2) i.dm) ⟨0,0⟩)=r:=zX hr;have hw:∀k:Int,bo.wrap ((yB 2 (i.b.dz 2) i.dm:Int)+1)=((yB 2 (i.b.dz 2) i.dm+1:Nat):Int):=λ_=>by
  have:=VH 2 i.dm (i.b.dz 2);have hl:(i.b.dz 2).length<=1000000:=by show i.b.fc.length<=_;omega
  rw[iw X_];rfl
 have Mp:((yB 2 (i.b.dz 2) i.dm:Nat):Int)<((aa zD i.b.fc).length:Int):=by
  rw[ib];show((yB 2 i.b.fc i.dm:Nat):Int)<_;omega
 unfold ySo Q7 zNl Q7 zNk YJ Qa2 Ij ff dx dM u0 qS Q0 qE xH dI;refine⟨vB _ _,W_ (λc1=>W_ (λc2=> ?_) (λc2=> ?_)) (λc1=> ?_)⟩
 ·have c2:i.b.iL=i.id:=i9 c2
  have hu:i.b.ki 2 i.id={i.b with gq:=au}:=by rw[dq.ki,fh ⟨c1,c2⟩];rfl
  refine⟨⟨{i.b with gq:=au,at_:=rS i.id i.b.at_},i.dm⟩,iB ⟨rfl,(LM _ _).symm,rfl,qw,λ_ _=>⟨⟨oM,Mp⟩,r.queue,jz hr (by simp[zD]) rfl,⟨i.b.a,r.queue⟩,rfl,rfl,Y_,λ_ _=>W_ (λe=>⟨by simp only[y9];omega,⟨i.b.fc.map zD,yB 2 (i.b.dz 2) i.dm,yB 2 (i.b.dz 2) i.dm+1⟩,rfl,(hw 0).symm,rfl,⟨Mc _,by rw[ib];exact hn⟩,λ_ _=>⟨rfl,(),?_⟩⟩) (λe=>⟨(),?_⟩)⟩⟩⟩
  ·have e:(i.b.a.qn r.queue).count=0:=i9 e
   rw[dq.iN,qx,fh e,hu];refine(nu ⟨rfl,?_,?_,Y_⟩)
   ·show aa zD (i.b.fc.take _++i.b.fc.drop _)=_;rw[jh,Eh,FK]
   ·show iE (i.b.spare++[r.queue])=_;simp[iE]
  ·have e:¬(i.b.a.qn r.queue).count=0:=i9 e
   rw[dq.iN,qx,eg e,hu];exact(nu (iP Y_))
 ·have c2:¬i.b.iL=i.id:=i9 c2
  have hu:i.b.ki 2 i.id={i.b with gq:=i.b.gq}:=by rw[dq.ki,eg (λe=>c2 e.2)]
  refine⟨⟨{i.b with gq:=i.b.gq,at_:=rS i.id i.b.at_},i.dm⟩,iB ⟨rfl,(LM _ _).symm,rfl,qw,λ_ _=>⟨⟨oM,Mp⟩,r.queue,jz hr (by simp[zD]) rfl,⟨i.b.a,r.queue⟩,rfl,rfl,Y_,λ_ _=>W_ (λe=>⟨by simp only[y9];omega,⟨i.b.fc.map zD,yB 2 (i.b.dz 2) i.dm,yB 2 (i.b.dz 2) i.dm+1⟩,rfl,(hw 0).symm,rfl,⟨Mc _,by rw[ib];exact hn⟩,λ_ _=>⟨rfl,(),?_⟩⟩) (λe=>⟨(),?_⟩)⟩⟩⟩
  ·have e:(i.b.a.qn r.queue).count=0:=i9 e
   rw[dq.iN,qx,fh e,hu];refine(nu ⟨rfl,?_,?_,Y_⟩)
   ·show aa zD (i.b.fc.take _++i.b.fc.drop _)=_;rw[jh,Eh,FK]
   ·show iE (i.b.spare++[r.queue])=_;simp[iE]
  ·have e:¬(i.b.a.qn r.queue).count=0:=i9 e
   rw[dq.iN,qx,eg e,hu];exact(nu (iP Y_))
 ·have hu:i.b.ki 2 i.id={i.b with gq:=i.b.gq}:=by
   rw[dq.ki,eg];rintro⟨e,_⟩;exact absurd (show i.b.gq=ar from e) (by rw[c1];decide)
  refine⟨⟨{i.b with gq:=i.b.gq,at_:=rS i.id i.b.at_},i.dm⟩,iB ⟨rfl,(LM _ _).symm,rfl,qw,λ_ _=>⟨⟨oM,Mp⟩,r.queue,jz hr (by simp[zD]) rfl,⟨i.b.a,r.queue⟩,rfl,rfl,Y_,λ_ _=>W_ (λe=>⟨by simp only[y9];omega,⟨i.b.fc.map zD,yB 2 (i.b.dz 2) i.dm,yB 2 (i.b.dz 2) i.dm+1⟩,rfl,(hw 0).symm,rfl,⟨Mc _,by rw[ib];exact hn⟩,λ_ _=>⟨rfl,(),?_⟩⟩) (λe=>⟨(),?_⟩)⟩⟩⟩
  ·have e:(i.b.a.qn r.queue).count=0:=i9 e
   rw[dq.iN,qx,fh e,hu];refine(nu ⟨rfl,?_,?_,Y_⟩)
   ·show aa zD (i.b.fc.take _++i.b.fc.drop _)=_;rw[jh,Eh,FK]
   ·show iE (i.b.spare++[r.queue])=_;simp[iE]
  ·have e:¬(i.b.a.qn r.queue).count=0:=i9 e
   rw[dq.iN,qx,eg e,hu];exact(nu (iP Y_))
def yTx:G1.ok Z_ 234:=gy mixed (dw Zk (dw sX (dw yEg fk))) 0 i6 i6 [] func234 xAq
def yYj:UF.ok Z_ 234:=λj=>match j with
 |⟨i,au⟩=>yVh i
 |⟨i,ar⟩=>yTx i
def yZg {a:dv} {k:Nat} {p t:Int} {m:Nat} (h:WY (a.fg k) m k p t) (hl:k<a.du.length):a.nw k=((a.fg k).qd,ar):=by
 have:a.iz k=ar:=by
  simp only[dv.iz,lu,ua,ov];exact⟨oM,oM,h.used⟩
 rw[dv.nw,fh this,ov]
def z6f {b:dq} {Q:Q_ Nat} (c:b.Core Q (-1)) {id s:Int} {r:xX} {k:Nat} (h:Told b Q id s r k):b.a.nw k=((b.a.fg k).qd,ar)/\(b.a.fg k).dr<=1000000/\1<=(b.a.fg k).dr:=by
 obtain⟨h1,⟨p,t,h2⟩,h3⟩:=c.wf.toze.mem (c.get h.hs h.hr) h.hk;exact⟨yZg h2 (by rw[c.wf.len];exact h1),h2.q2,c.wf.pos _ _ (c.get h.hs h.hr) _ h.hk⟩
def xCf (i:CY) (h:G7.dp i):yQu i:=by
 obtain⟨Q,c,ht,hL⟩:i.b.ga i.L:=h;unfold yQu Q9 dx eQ zHg Q9 Ij ff dx zGi QP dI;rcases c.told i.id with⟨hg,hn⟩|⟨s,r,k,hT⟩
 ·refine⟨vB _ _,au,0,0,0,.inr ⟨?_,rfl,rfl⟩,W_ (λ_=> ?_) (λe=>absurd e Z8)⟩
  ·rw[N5,hg];rfl
  ·rw[<- hL]at hn;rw[xAu hn,hn];exact⟨(),gj⟩
 ·refine⟨vB _ _,ar,s,r.dm,k,.inl ⟨?_,rfl⟩,W_ (λe=>absurd e Z8) (λ_=>dup ⟨⟨i.b.a,k⟩,rfl,rfl,by dsimp only;rw[c.wf.len];decide,λ_ _=>⟨(),?_⟩⟩)⟩
  ·rw[N5,hT.e];rfl
  ·have h1:=hT.get;have h2:=hT.has;rw[<- hL]at h1 h2;rw[h1,h2,(z6f c hT).1];exact⟨hT.ident,gj⟩
def z6z:G7.ok Z_ 169:=gy mixed (dw yIc fk) 0 i6 i6 [0] func169 xCf
def dq.Core.EA {b:dq} {Q:Q_ Nat} (c:b.Core Q (-1)):b.a.EA:=c.wf.toze.ok
def xDt (i:CY) (h:Lg.dp i):y4k i:=by
 have hR:i.b.ga i.L:=h;obtain⟨Q,c,ht,hL⟩:=id hR;unfold y4k Q7 ff YT Q7 ff Zu Q0 Q7 QR ff uK V9 QR eQ dI;rcases c.told i.id with⟨hg,hn⟩|⟨s,r,k,hT⟩
 ·refine⟨vB _ _,au,0,0,0,.inr ⟨?_,rfl,rfl⟩,W_ (λ_=> ?_) (λe=>absurd e (by simp))⟩
  ·rw[N5,hg];rfl
  ·rw[<- hL]at hn;rw[qK,fh hn];exact⟨i.b,oO (iP hR)⟩
 have hg:=hT.get;have hh:=hT.has;rw[<- hL]at hg hh;obtain⟨Kl,xb,uo⟩:=z6f c hT;have O0:(bL i.L i.id).dr=(i.b.a.fg k).dr:=by rw[hg];rfl
 refine⟨vB _ _,ar,s,r.dm,k,.inl ⟨?_,rfl⟩,W_ (λe=>absurd e (by simp)) (λ_=>⟨⟨i.b.a,k,i.dr⟩,rfl,rfl,rfl,c.EA,λ_ _=> ?_⟩)⟩
 ·rw[N5,hT.e];rfl
 dsimp only;have hu:i.b.a.iz k=ar:=by
  cases hu:i.b.a.iz k with
  |true=>rfl
  |false=>rw[dv.nw,eg (by rw[hu];decide)]at Kl;exact absurd (congrArg Prod.snd Kl) (by simp)
 by_cases hb:i.dr<1\/(i.b.a.fg k).dr<i.dr
 ·have ht:i.b.a.gw k i.dr=(i.b.a,24):=by rw[dv.gw,eg (by rw[hu];decide),ov,fh hb]
  rw[ht];refine W_ (λ_=> ?_) (λe=>absurd e (by simp));rw[qK,eg (by rw[hh];decide),fh (by rw[O0];exact hb)];exact⟨i.b,oO (iP hR)⟩
 have BI:qK i.L i.id i.dr=(wZ i.L i.id i.dr,0):=by rw[qK,eg (by rw[hh];decide),eg (by rw[O0];exact hb)]
 by_cases hf:i.dr=(i.b.a.fg k).dr
 ·obtain⟨g1,g2,g3,g4,g5,g6⟩:=c.gone (by rw[<- hL];exact ht) hT (q:=i.dr) ⟨oM,hf⟩;rw[<- hL]at g2;have qw:=c.small;rw[g1];refine W_ (λe=>absurd e (by simp)) (λ_=>dup ⟨⟨(i.b.a.gw k i.dr).1,k⟩,rfl,rfl,by dsimp only;rw[g3];decide,λ_ _=> ?_⟩);dsimp only;rw[g5];refine W_ (λ_=> ?_) (λe=>absurd e (by simp));rcases hT.hs with rfl|rfl
  ·refine⟨⟨⟨{i.b with a:=(i.b.a.gw k i.dr).1},i.id,r.dm,k⟩,au⟩,iB (nh ⟨rfl,⟨⟨⟨by dsimp only;rw[g3];decide,by dsimp only;rw[g4];exact qw.1.2⟩,qw.2⟩,g6⟩,λ_ _=> ?_⟩)⟩;refine⟨({i.b with a:=(i.b.a.gw k i.dr).1}:dq).iN 1 i.id r.dm,by rw[BI],nu (iP (by rw[BI];exact g2))⟩
  ·refine⟨⟨⟨{i.b with a:=(i.b.a.gw k i.dr).1},i.id,r.dm,k⟩,ar⟩,iB (nh ⟨rfl,⟨⟨⟨by dsimp only;rw[g3];decide,by dsimp only;rw[g4];exact qw.1.2⟩,qw.2⟩,g6⟩,λ_ _=> ?_⟩)⟩;refine⟨({i.b with a:=(i.b.a.gw k i.dr).1}:dq).iN 2 i.id r.dm,by rw[BI],nu (iP (by rw[BI];exact g2))⟩
 ·obtain⟨g1,g2,g3,g4,g5⟩:=c.less (by rw[<- hL];exact ht) hT (q:=i.dr) oM;rw[<- hL]at g2;rw[g1];refine W_ (λe=>absurd e (by simp)) (λ_=>dup ⟨⟨(i.b.a.gw k i.dr).1,k⟩,rfl,rfl,by dsimp only;rw[g3];decide,λ_ _=> ?_⟩);dsimp only;rw[g4];refine W_ (λe=>absurd e (by simp)) (λ_=>W_ (λe=> ?_) (λ_=> ?_))
  ·have e:¬((i.b.a.gw k i.dr).1.fg k).qd.id=i.id:=i9 e
   exact absurd g5 e
  ·exact⟨{i.b with a:=(i.b.a.gw k i.dr).1},by rw[BI],nu (iP (by rw[BI];exact g2))⟩
def y0d:Lg.ok Z_ 171:=gy mixed (dw yNl (dw yIc (dw yYj fk))) 0 i6 i6 [0] func171 xDt
def z2g (A B:List zK) (s p:Int):vy (A++B) s p=vy A s p++vy B s p:=CL _ _
def WX {A:List zK} {s p:Int} (h:∀o∈A,o.side=s->o.dm≠p):vy A s p=[]:=by
 rw[vy,IJ];intro o ho;by_cases e:o.side=s
 ·simp[h o ho e]
 ·simp[e]
def yXr {A:List zK} {s p:Int} (h:∀o∈A,o.side=s/\o.dm=p):vy A s p=A:=by
 rw[vy,II];intro o ho;simp[h o ho]
def Pv {s x y:Int} (h:jo s x y=ar):x≠y:=by
 rintro rfl;rw[N6]at h;cases h
def dq.Core.Ln {b:dq} {Q:Q_ Nat} (c:b.Core Q (-1)) {s p:Int} (hs:s=1\/s=2) (h:jT s (b.dz s) p=au):vy (b.flat Q) s p=[]:=by
 have ue:=zHl (p:=p) (c.xw s hs);rw[eg (by rw[h];decide)]at ue;refine WX λo ho e=> ?_
 obtain⟨_,r,hr,_,hp⟩:=sM ho;rw[e]at hr;rw[hp];rw[<- Bi (yB s (b.dz s) p) (b.dz s)]at hr;rcases oH.1 hr with hr|hr
 ·exact Pv (ue.1 r hr)
 ·exact(Pv (ue.2 r hr)).symm
def dq.Core.Hb {b:dq} {Q:Q_ Nat} (c:b.Core Q (-1)) {s p:Int} (hs:s=1\/s=2) (h:jT s (b.dz s) p=ar):∃r,(b.dz s)[yB s (b.dz s) p]? =az r/\r.dm=p/\r∈b.dz s/\vy (b.flat Q) s p=b.ig Q s r:=by
 have ue:=zHl (p:=p) (c.xw s hs);rw[fh h]at ue;obtain⟨h1,r,hr,hp,h2⟩:=ue;have gr:=(jk.1 hr).1;refine⟨r,hr,hp,kx hr,?_⟩;have pd:b.dz s=(b.dz s).take (yB s (b.dz s) p)++r::(b.dz s).drop (yB s (b.dz s) p+1):=by
  conv=>lhs;rw[<- Bi (yB s (b.dz s) p) (b.dz s)]
  rw[CN gr,(jk.1 hr).2]
 have o7:vy (b.iv Q s) s p=b.ig Q s r:=by
  rw[dq.iv,pd,zh,vw,z2g,z2g,WX,yXr,WX,oQ,wy]
  ·intro o ho _;obtain⟨r',oy,ho⟩:=Bf.1 ho;rw[(qZ ho).2];exact(Pv (h2 r' oy)).symm
  ·intro o ho;rw[<- hp];exact qZ ho
  ·intro o ho _;obtain⟨r',oy,ho⟩:=Bf.1 ho;rw[(qZ ho).2];exact Pv (h1 r' oy)
 have GR:∀s',s'≠s->vy (b.iv Q s') s p=[]:=λs' jy=>WX λo ho e=>absurd ((pO ho).1.symm.trans e) jy
 rw[dq.flat,z2g];rcases hs with rfl|rfl
 ·rw[o7,GR 2 (by decide),oQ]
 ·rw[o7,GR 1 (by decide),wy]
def dq.Core.qh {b:dq} {Q:Q_ Nat} (c:b.Core Q (-1)) {s:Int} (hs:s=1\/s=2) {r:xX} (hr:r∈b.dz s):b.a.qh r.queue (xL Q r):=by
 have hg:=c.get hs hr;have OX:=c.uw _ (g7 hs hr);refine⟨by have:=c.wf.toze.short hg;omega,?_⟩;rw[fh ⟨OX.1,by rw[c.wf.ql];exact OX.2⟩,zX (c.wf.q _ _ hg)];exact zYo (c.wf.sg _ _ hg)
def xHv (i:I') (h:TX.dp i):xHa i:=by
 obtain⟨Q,c,ht,hL⟩:i.b.ga i.L:=h;unfold xHa ff dx Qe Qf dF u9 qS Q0 qD kW dI;refine⟨1,rfl,Y_,λ_ _=>W_ (λe=>absurd e Z8) λ_=>⟨⟨i.b,i.dm⟩,oO (iP ⟨rfl,c.small,λ_ _=>W_ (λe=> ?_) (λe=> ?_)⟩)⟩⟩
 ·have e:jT 1 (i.b.dz 1) i.dm=au:=i9 e
  have:=c.Ln (.inl rfl) e;rw[<- hL]at this;refine⟨(),iB ⟨rfl,?_,Y_⟩⟩;show aa wT (vy i.L 1 i.dm)=[];rw[this];rfl
 ·have e:jT 1 (i.b.dz 1) i.dm=ar:=i9 e
  obtain⟨r,hr,hp,hm,ha⟩:=c.Hb (.inl rfl) e;rw[<- hL]at ha;have gr:=(jk.1 hr).1;refine⟨⟨oM,by rw[ib];exact Int.ofNat_lt.2 gr⟩,r.dm,r.queue,jz hr (by simp[zD]) rfl,⟨i.b,1,r,xL Q r⟩,iB (iP ⟨rfl,c.qh (.inl rfl) hm,λ_ _=>⟨(),rfl,?_,Y_⟩⟩)⟩;show aa wT (vy i.L 1 i.dm)=_;rw[ha,Fv.oA,dq.ig,dv.fy];simp only[wx];rfl
def xAi:TX.ok Z_ 235:=gy mixed (dw JR (dw ZO (dw zWk fk))) 0 i6 i6 [0] func235 xHv
def xIr (i:I') (h:TW.dp i):xCp i:=by
 obtain⟨Q,c,ht,hL⟩:i.b.ga i.L:=h;unfold xCp ff dx Qe Qf dM u0 qS Q0 qE kW dI;refine⟨2,rfl,Y_,λ_ _=>W_ (λe=>absurd e Z8) λ_=>⟨⟨i.b,i.dm⟩,oO (iP ⟨rfl,c.small,λ_ _=>W_ (λe=> ?_) (λe=> ?_)⟩)⟩⟩
 ·have e:jT 2 (i.b.dz 2) i.dm=au:=i9 e
  have:=c.Ln (.inr rfl) e;rw[<- hL]at this;refine⟨(),iB ⟨rfl,?_,Y_⟩⟩;show aa wT (vy i.L 2 i.dm)=[];rw[this];rfl
 ·have e:jT 2 (i.b.dz 2) i.dm=ar:=i9 e
  obtain⟨r,hr,hp,hm,ha⟩:=c.Hb (.inr rfl) e;rw[<- hL]at ha;have gr:=(jk.1 hr).1;refine⟨⟨oM,by rw[ib];exact Int.ofNat_lt.2 gr⟩,r.dm,r.queue,jz hr (by simp[zD]) rfl,⟨i.b,2,r,xL Q r⟩,iB (iP ⟨rfl,c.qh (.inr rfl) hm,λ_ _=>⟨(),rfl,?_,Y_⟩⟩)⟩;show aa wT (vy i.L 2 i.dm)=_;rw[ha,Fv.oA,dq.ig,dv.fy];simp only[wx];rfl
def y9u:TW.ok Z_ 235:=gy mixed (dw JR (dw Zk (dw zWk fk))) 0 i6 i6 [0] func235 xIr
def xGm:atC.ok Z_ 235:=λj=>match j with
 |⟨b,L,au,p⟩=>xAi ⟨b,L,au,p⟩
 |⟨b,L,ar,p⟩=>y9u ⟨b,L,ar,p⟩
def J2 (p:Int) (l:List zK):Lv:=⟨p,(l.map (·.dr)).sum,l.length⟩
def Y2:∀{l:List zK} {v:Lv} {vs:List Lv},yh l=v::vs->∃o r,l=o::r/\o.dm=v.dm
 |[],v,vs,h=>by cases h
 |o::r,v,vs,h=>by
  refine⟨o,r,rfl,?_⟩;rw[yh]at h;split at h
  ·cases h;rfl
  ·split at h
   ·rename_i e;cases h;exact e.symm
   ·cases h;rfl
def yHm {p:Int}:∀{l:List zK} {m:List zK},l≠[]->(∀o∈l,o.dm=p)->(∀o r,m=o::r->o.dm≠p)->yh (l++m)=J2 p l::yh m
 |[],m,h,_,_=>absurd rfl h
 |[o],m,_,h,hm=>by
  have e:=h o iY;rw[RP,yh];split
  ·rename_i g;simp[J2,e,g]
  ·rename_i v vs g;obtain⟨o',r,e1,e2⟩:=Y2 g;have:=hm o' r e1;rw[eg X_];simp[J2,e,g]
 |o::o'::l,m,_,h,hm=>by
  have e:=h o iY;have ih:=yHm (l:=o'::l) (m:=m) (by simp) (λx hx=>h x (jj _ hx)) hm;rw[uu,yh,ih];dsimp only;rw[fh (show(J2 p (o'::l)).dm=o.dm from e.symm)];simp only[J2,jg,qi,iG];rfl
def z4j {f:xX->List zK}:∀{R:List xX},(∀r∈R,f r≠[]/\∀o∈f r,o.dm=r.dm)->R.Pairwise (λr r'=>r.dm≠r'.dm)->yh (R.flatMap f)=R.map λr=>J2 r.dm (f r)
 |[],_,_=>rfl
 |r::R,h,hp=>by
  rw[zg]at hp;have ih:=z4j (R:=R) (λx hx=>h x (jj _ hx)) hp.2;rw[vw,yHm (h r iY).1 (h r iY).2,ih,jg];intro o l e;cases R with
  |nil=>cases e
  |cons r' R'=>
   rw[vw]at e;obtain⟨h1,h2⟩:=h r' (jj _ iY);cases hf:f r' with
   |nil=>exact absurd hf h1
   |cons x y=>
    rw[hf,uu]at e;cases e;rw[h2 o (by rw[hf];exact iY)];exact(hp.1 r' iY).symm
def zXw {b:dq} {Q:Q_ Nat} {s:Int} (hs:s=1\/s=2):(b.flat Q).filter (λo=>decide (o.side=s))=b.iv Q s:=by
 have h1:∀s',(b.iv Q s').filter (λo=>decide (o.side=s))=if s'=s then b.iv Q s' else[]:=by
  intro s';split
  ·rename_i e;rw[II];intro o ho;rw[(pO ho).1,e];simp
  ·rename_i e;rw[IJ];intro o ho;rw[(pO ho).1];simp[e]
 rw[dq.flat,CL,h1,h1];rcases hs with rfl|rfl
 ·simp
 ·simp
def dq.Core.neL {b:dq} {Q:Q_ Nat} (c:b.Core Q (-1)) {s:Int} (hs:s=1\/s=2) {r:xX} (hr:r∈b.dz s):xL Q r≠[]:=c.ne s hs r hr λe=>by have:=c.uw _ (g7 hs hr);omega
def dq.Core.T0 {b:dq} {Q:Q_ Nat} (c:b.Core Q (-1)) {s:Int} (hs:s=1\/s=2) {r:xX} (hr:r∈b.dz s):b.told r=J2 r.dm (b.ig Q s r):=by
 have hg:=c.get hs hr;have OX:=c.uw _ (g7 hs hr);have hq:=c.wf.q _ _ hg;have IV:=c.wf.ql;rw[dq.told,W6 OX.1 hq,J2,dq.ig,wx,ib];rfl
def dq.Core.lad {b:dq} {Q:Q_ Nat} (c:b.Core Q (-1)) {s:Int} (hs:s=1\/s=2):uF (b.flat Q) s=(b.dz s).map b.told:=by
 rw[uF,zXw hs,dq.iv,z4j]
 ·exact uk λr hr=>(c.T0 hs hr).symm
 ·intro r hr;refine⟨λe=>c.neL hs hr (List.map_eq_nil_iff.1 e),λo ho=>(qZ ho).2⟩
 ·exact(c.xw s hs).imp λh=>Pv h
def dq.Core.iI {b:dq} {Q:Q_ Nat} (c:b.Core Q (-1)) {s:Int} (hs:s=1\/s=2):b.iy (b.dz s)=Sx.iI (b.flat Q) s:=by
 rw[Sx.iI,c.lad hs];cases b.dz s<;>rfl
def dq.Core.Fm {b:dq} {Q:Q_ Nat} (c:b.Core Q (-1)):b.oe:=by
 intro q hq;obtain⟨n,hn⟩:=BB.1 hq;have gr:=(jk.1 hn).1;rw[c.wf.ql]at gr;obtain⟨l,hl⟩:=zZ gr;have:=c.wf.q n l hl;rw[hn]at this;cases this;have:=c.wf.toze.short hl;constructor<;>dsimp only<;>omega
def qC (L:List zK):kf:=(kg.F9 (iI L 1)).AQ (iI L 2)
def dq.ga.top {b:dq} {L:List zK} (h:b.ga L):b.top=qC L:=by
 obtain⟨Q,c,ht,rfl⟩:=h;rw[dq.top,qC,<- c.iI (.inl rfl),<- c.iI (.inr rfl)];rfl
def dq.ga.Fm {b:dq} {L:List zK} (h:b.ga L):b.oe:=by
 obtain⟨Q,c,ht,rfl⟩:=h;exact c.Fm
structure Lx (o:zK):Prop where
 s:o.side=1\/o.side=2
 q:1<=o.dr/\o.dr<=1000000
def dq.ga.oA {b:dq} {L:List zK} (h:b.ga L):(∀o∈L,Lx o)/\(L.map (·.id)).Nodup/\L.length<=250:=by
 obtain⟨Q,c,ht,rfl⟩:=h;refine⟨λo ho=> ?_,c.ids,?_⟩
 ·obtain⟨hs,r,hr,ho,hp⟩:=sM ho;refine⟨hs,?_⟩;obtain⟨k,hk,e⟩:=nn.1 ho;obtain⟨_,⟨_,_,h2⟩,_⟩:=c.wf.toze.mem (c.get hs hr) hk;have eq:o.dr=(b.a.fg k).dr:=by rw[<- e];rfl
  rw[eq];exact⟨c.wf.pos _ _ (c.get hs hr) _ hk,h2.q2⟩
 ·have rj:(((b.dz 1).flatMap (xL Q)++(b.dz 2).flatMap (xL Q))).Nodup:=by
   have hm:((b.flat Q).map (·.id))=((b.dz 1).flatMap (xL Q)++(b.dz 2).flatMap (xL Q)).map λk=>(b.a.fg k).id:=by
    rw[dq.flat,jh,jh,dq.iv,dq.iv,JS,JS,JS,JS];congr 1
    ·exact xM λr _=>by rw[dq.ig,wx];rfl
    ·exact xM λr _=>by rw[dq.ig,wx];rfl
   have:=c.ids;rw[hm]at this;exact List.Pairwise.of_map _ (λa b CU e=>CU (by rw[e])) this
  have hl:(b.flat Q).length=((b.dz 1).flatMap (xL Q)++(b.dz 2).flatMap (xL Q)).length:=by
   rw[dq.flat,ix,ix,dq.iv,dq.iv,OE,OE,OE,OE];congr 1
   ·congr 1;exact uk λr _=>by rw[dq.ig,ib]
   ·congr 1;exact uk λr _=>by rw[dq.ig,ib]
  rw[hl];refine YY 250 rj λk hk=> ?_
  rcases oH.1 hk with hk|hk
  ·obtain⟨r,hr,hk⟩:=Bf.1 hk;exact(c.wf.toze.mem (c.get (.inl rfl) hr) hk).1
  ·obtain⟨r,hr,hk⟩:=Bf.1 hk;exact(c.wf.toze.mem (c.get (.inr rfl) hr) hk).1
def dq.ga.fit {b:dq} {L:List zK} (h:b.ga L):b.fit:=by
 obtain⟨Q,c,ht,rfl⟩:=h;have hs:=c.small;have h1:=c.ql;have h2:=c.wf.ql;have Sn:=c.qb;rw[dq.qs,ix,ix,ib,ib]at h1;refine⟨⟨hs.1.1,λhf=> ?_,λq hq=> ?_⟩,oM,oM,oM,oM⟩
 ·obtain⟨k,_,hk,AH,H9,_⟩:=c.wf.toze.unused hf;exact⟨_,kx AH,H9⟩
 ·obtain⟨n,hn⟩:=BB.1 hq;have gr:=(jk.1 hn).1;rw[c.wf.ql]at gr;obtain⟨l,hl⟩:=zZ gr;have:=c.wf.q n l hl;rw[hn]at this;cases this;dsimp only;rcases vR l with e|⟨y,j,e,e2⟩
  ·exact .inl ((tD l).2 e)
  ·rw[e2];have:=(c.wf.toze.mem hl (k:=j) (by rw[e];simp)).1;rw[c.wf.len];exact .inr ⟨oM,oM⟩
def sw:Nat->Q_ zK->List (Int×Int)
 |_,[]=>[]
 |k,L::B=>L.map (λo=>(o.id,(k:Int)))++sw (k+1) B
def A3:∀{B:Q_ zK} {n:Nat} {x:Int×Int},x∈sw n B↔∃(k:Nat) (L:List zK),B[k]? =az L/\x.1∈L.map (·.id)/\x.2=((n+k:Nat):Int)
 |[],n,x=>by simp[sw]
 |L::B,n,x=>by
  rw[sw,oH,A3 (B:=B)];constructor
  ·rintro(h|⟨k,L',h1,h2,h3⟩)
   ·obtain⟨o,ho,rfl⟩:=nn.1 h;exact⟨0,L,rfl,sv (f:=(·.id)) ho,rfl⟩
   ·exact⟨k+1,L',h1,h2,by rw[h3];omega⟩
  ·rintro⟨k,L',h1,h2,h3⟩;cases k with
   |zero=>
    cases h1;obtain⟨o,ho,e⟩:=nn.1 h2;exact .inl (nn.2 ⟨o,ho,Prod.ext e h3.symm⟩)
   |succ k=>exact .inr ⟨k,L',h1,h2,by rw[h3];omega⟩
def UZ:∀{B:Q_ zK} (n k:Nat),k<B.length->∃rest,∀X:List zK,(sw n (B.set k X)).Perm (X.map (λo=>(o.id,((n+k:Nat):Int)))++rest)
 |[],n,k,h=>absurd h (by simp)
 |L::B,n,0,h=>⟨sw (n+1) B,λX=> .refl _⟩
 |L::B,n,k+1,h=>by
  obtain⟨rest,hr⟩:=UZ (B:=B) (n+1) k (i9 h);refine⟨L.map (λo=>(o.id,(n:Int)))++rest,λX=> ?_⟩;rw[OB,sw];refine((hr X).append_left _).trans ?_;rw[<- jd,<- jd,show n+1+k=n+(k+1)by omega];exact BC.append_right _
structure gz.ga (s:gz) (p:fj) (B:Q_ zK):Prop where
 ep:s.p=p
 bl:s.ez.length=B.length
 bk:∀(k:Nat) (b:dq) (L:List zK),s.ez[k]? =az b->B[k]? =az L->b.ga L
 wh:s.wh.Perm (sw 0 B)
 ids:((sw 0 B).map (·.1)).Nodup
def pK (B:Q_ zK) (id:Int):Option Nat:=B.findIdx? λL=>vQ L id
def uW {B:Q_ zK} {id:Int} {k:Nat} (h:pK B id=az k):∃L,B[k]? =az L/\vQ L id=ar:=by
 rw[pK,Mj]at h;obtain⟨h1,h2,_⟩:=h;exact⟨_,vl h1,h2⟩
def yCm {B:Q_ zK} {id:Int} (h:pK B id=ba):∀L∈B,vQ L id=au:=by
 rw[pK,OH]at h;exact h
def z2a:∀{l:List (Int×Int)},(l.map (·.1)).Nodup->∀{k x:Int},(k,x)∈l->CD l k=az x
 |[],_,k,x,hx=>by cases hx
 |p::l,h,k,x,hx=>by
  rw[jg,yz]at h;rw[CD,L9];rcases j'.1 hx with ex|hx
  ·subst ex;simp
  ·have:p.1≠k:=by rintro e;exact h.1 (e▸sv (f:=(·.1)) hx)
   rw[ju this];exact z2a h.2 hx
def yLo {l:List (Int×Int)} {k:Int} (h:k∉l.map (·.1)):CD l k=ba:=by
 rw[CD,Option.map_eq_none_iff,ae];intro x hx e;have e:x.1=k:=i9 e
 exact h (e▸sv (f:=(·.1)) hx)
def gz.ga.keys {s:gz} {p:fj} {B:Q_ zK} (h:s.ga p B):(s.wh.map (·.1)).Nodup:=(h.wh.map (·.1)).nodup_iff.2 h.ids
def gz.ga.at_ {s:gz} {p:fj} {B:Q_ zK} (h:s.ga p B) (id:Int):CD s.wh id=(pK B id).map (λk:Nat=>(k:Int)):=by
 cases hi:pK B id with
 |none=>
  refine yLo λhm=> ?_
  rw[(h.wh.map (·.1)).mem_iff]at hm
  obtain⟨x,hx,rfl⟩:=nn.1 hm;obtain⟨k,L,h1,h2,_⟩:=A3.1 hx;have:=yCm hi L (kx h1);rw[ku.2 h2]at this;cases this
 |some k=>
  obtain⟨L,h1,h2⟩:=uW hi;refine z2a h.keys (h.wh.mem_iff.2 (A3.2 ⟨k,L,h1,ku.1 h2,by simp⟩))
def iR (B:Q_ zK) (id q:Int):Q_ zK×Int:=match pK B id with
 |none=>(B,26)
 |some k=>(B.set k (qK (B.getD k []) id q).1,(qK (B.getD k []) id q).2)
def Y4 {L:List zK} (h:(L.map (·.id)).Nodup) (id q:Int):((qK L id q).1.map (·.id)=L.map (·.id)/\vQ (qK L id q).1 id=vQ L id)\/((qK L id q).1=L.filter (λo=> !decide (o.id=id))/\vQ (qK L id q).1 id=au):=by
 rw[qK];by_cases h1:vQ L id=au
 ·rw[fh h1];exact .inl ⟨rfl,rfl⟩
 have h1:vQ L id=ar:=i9 h1
 rw[eg (by rw[h1];decide)];by_cases h2:q<1\/(bL L id).dr<q
 ·rw[fh h2];exact .inl ⟨rfl,rfl⟩
 rw[eg h2];dsimp only;by_cases h3:(bL L id).dr=q
 ·refine .inr ?_;have e:wZ L id q=L.filter λo=> !decide (o.id=id):=by rw[<- h3];exact zWu h h1
  refine⟨e,?_⟩;rw[e,vQ,Mf];intro o ho;rw[vi]at ho;simpa using ho.2
 ·refine .inl ?_;have hm:(wZ L id q).map (·.id)=L.map (·.id):=by
   have:wZ L id q=L.map λo=>if o.id=id then{o with dr:=o.dr-q}else o:=by
    rw[wZ,<- List.filterMap_eq_map];refine nU λo ho=> ?_
    simp only[cm];by_cases e:o.id=id
    ·have hg:=eO h ho;rw[e]at hg;rw[fh e,fh e,eg (λe2=>h3 (by rw[hg];exact e2))]
    ·rw[eg e,eg e]
   rw[this,wx];refine uk λo _=> ?_
   simp only[cm];split<;>rfl
  refine⟨hm,?_⟩;rw[CK,ku,ku,hm]
def yIa:∀{l:List (Int×Int)} {k:Int},(l.map (·.1)).Nodup->L5 k l=l.filter λx=> !decide (x.1=k)
 |[],k,_=>rfl
 |(a,b)::l,k,h=>by
  rw[jg,yz]at h;rw[L5];by_cases e:k=a
  ·subst e;rw[fh rfl,RR (by simp)];symm;rw[II];intro x hx;have:x.1≠k:=λe=>h.1 (e▸sv (f:=(·.1)) hx)
   simp[this]
  ·rw[eg e,RS (by simp[Ne.symm e]),yIa h.2]
def z5a:∀{l:List (Int×Int)} {k x:Int},k∉l.map (·.1)->J3 k x l=l++[(k,x)]
 |[],k,x,_=>rfl
 |p::l,k,x,h=>by
  rw[jg,j',not_or]at h;rw[J3,eg h.1,z5a h.2];rfl
def jK {α:Type} {l:List α} {k:Nat} {x:α} (h:l[k]? =az x):l.set k x=l:=by
 apply Du;intro i;rw[Ci];split
 ·rename_i e;subst e;rw[fh (jk.1 h).1,h]
 ·rfl
def gz.ga.set {s:gz} {p:fj} {B:Q_ zK} (h:s.ga p B) {k:Nat} {L':List zK} {b':dq} (hb:b'.ga L') (hk:k<B.length) {wh':List (Int×Int)} (hw:wh'.Perm (sw 0 (B.set k L'))) (hi:((sw 0 (B.set k L')).map (·.1)).Nodup):({s with ez:=s.ez.set k b',wh:=wh'}:gz).ga p (B.set k L'):=by
 refine⟨h.ep,by simpa using h.bl,λj b L h1 h2=> ?_,hw,hi⟩;by_cases e:k=j
 ·subst e;have h1:(s.ez.set k b')[k]? =az b:=h1;rw[cN (by rw[h.bl];exact hk)]at h1;rw[cN hk]at h2;cases h1;cases h2;exact hb
 ·have h1:(s.ez.set k b')[j]? =az b:=h1;rw[hU e]at h1 h2;exact h.bk j b L h1 h2
def gz.ga.take {s:gz} {p:fj} {B:Q_ zK} (h:s.ga p B) {id q:Int} {k:Nat} (hi:pK B id=az k) {L:List zK} (hL:B[k]? =az L) (hn:(L.map (·.id)).Nodup) {b':dq} (hb:b'.ga (qK L id q).1):
 ({s with ez:=s.ez.set k b',wh:=if vQ (qK L id q).1 id=ar then s.wh else L5 id s.wh}:gz).ga p (iR B id q).1:=by
 have hk:=(jk.1 hL).1;have ht:(iR B id q).1=B.set k (qK L id q).1:=by simp only[iR,hi,zX hL]
 obtain⟨L2,e1,hh⟩:=uW hi;rw[hL]at e1;cases e1;obtain⟨rest,hr⟩:=UZ (B:=B) 0 k hk;have MA:=hr L;rw[jK hL]at MA;rw[ht];rcases Y4 hn id q with⟨e1,e2⟩|⟨e1,e2⟩
 ·have hm:∀X Y:List zK,X.map (·.id)=Y.map (·.id)->X.map (λo=>(o.id,((0+k:Nat):Int)))=Y.map (λo=>(o.id,((0+k:Nat):Int))):=by
   intro X Y e;have:=congrArg (aa λi:Int=>(i,((0+k:Nat):Int))) e;rw[wx,wx]at this;exact this
  have hp:(sw 0 (B.set k (qK L id q).1)).Perm (sw 0 B):=by
   refine(hr _).trans ?_;rw[hm _ _ e1];exact MA.symm
  rw[e2,hh,fh rfl];exact h.set hb hk (h.wh.trans hp.symm) ((hp.map (·.1)).nodup_iff.2 h.ids)
 ·rw[e2,eg (by decide)];have B1:∀x∈rest,x.1≠id:=by
   intro x hx e;have rj:=(MA.map (·.1)).nodup_iff.1 h.ids
   rw[jh,wx]at rj;have h1:id∈L.map ((·.1)∘λo:zK=>(o.id,((0+k:Nat):Int))):=ku.1 hh
   exact(AB.1 rj).2.2 id h1 x.1 (sv (f:=(·.1)) hx) e.symm
  have hp:(sw 0 (B.set k (qK L id q).1)).Perm ((sw 0 B).filter λx=> !decide (x.1=id)):=by
   refine(hr _).trans (.trans ?_ (MA.filter _).symm);rw[e1,CL,ag];have:rest.filter (λx=> !decide (x.1=id))=rest:=by
    rw[II];intro x hx;simp[B1 x hx]
   rw[this];exact .refl _
  refine h.set hb hk ?_ ((hp.map (·.1)).nodup_iff.2 (h.ids.sublist (List.Sublist.map _ RL)))
  rw[yIa h.keys];exact(h.wh.filter _).trans hp.symm
def Iz (p:fj) (B:Q_ zK) (inst id:Int) (s dm q:Int):Q_ zK×Int:=
 if inst<0\/B.length<=inst then(B,20)else if(pK B id).isSome=ar then(B,25)else if 250<=(sw 0 B).length then(B,13)else if p.dm inst dm≠0 then(B,p.dm inst dm)
 else(B.set inst.toNat (CC (B.getD inst.toNat []) s id dm q).1,(CC (B.getD inst.toNat []) s id dm q).2)
def z4r (L:List zK) (s id p q:Int):((Iw L s id p q).map (·.id)).Perm (id::L.map (·.id)):=by
 have:∀X:List zK,((X.takeWhile (before s p)++⟨id,s,p,q,fU L s p⟩::X.dropWhile (before s p)).map (·.id)).Perm (id::X.map (·.id)):=by
  intro X
  conv=>rhs;rw[<- xRq (p:=before s p) (l:=X)]
  rw[jh,jg,jh];exact mu
 rw[Iw];split
 ·refine(this _).trans ?_;rw[yIn]
 ·exact this _
def gz.ga.add {s:gz} {p:fj} {B:Q_ zK} (h:s.ga p B) (inst id:Int) (sd:Bool) (dm q:Int):
 (gz.iD ⟨s,inst,id,sd,dm,q⟩).1.ga p (Iz p B inst id (zF sd) dm q).1/\(gz.iD ⟨s,inst,id,sd,dm,q⟩).2=(Iz p B inst id (zF sd) dm q).2:=by
 have Fb:zF sd=1\/zF sd=2:=by cases sd;exact .inl rfl;exact .inr rfl
 rw[gz.iD,Iz];dsimp only;rw[h.bl,h.at_,h.wh.length_eq,show s.p.dm inst dm=p.dm inst dm by rw[h.ep],Option.isSome_map];by_cases c1:inst<0\/(B.length:Int)<=inst
 ·rw[fh c1,fh c1];exact⟨h,rfl⟩
 rw[eg c1,eg c1];by_cases c2:(pK B id).isSome=ar
 ·rw[fh c2,fh c2];exact⟨h,rfl⟩
 rw[eg c2,eg c2];by_cases c3:250<=(sw 0 B).length
 ·rw[fh c3,fh c3];exact⟨h,rfl⟩
 rw[eg c3,eg c3];by_cases c4:p.dm inst dm≠0
 ·rw[fh c4,fh c4];exact⟨h,rfl⟩
 rw[eg c4,eg c4];obtain⟨k,hk⟩:∃k:Nat,inst=k:=⟨inst.toNat,oM⟩
 subst hk;rw[ov];have pg:k<B.length:=X_
 obtain⟨b,hb⟩:=zZ (l:=s.ez) (i:=k) (by rw[h.bl];exact pg);obtain⟨L,hL⟩:=zZ (l:=B) (i:=k) pg;have hba:s.AZ k=b:=by rw[gz.AZ,ov];exact zX hb
 rw[hba,zX hL];obtain⟨r1,r2⟩:=(h.bk k b L hb hL).add Fb id dm q;refine⟨?_,r2⟩;rw[r2];obtain⟨rest,hr⟩:=UZ (B:=B) 0 k pg;have MA:=hr L;rw[jK hL]at MA;have Uz:(CC L (zF sd) id dm q).2≠0/\(CC L (zF sd) id dm q).1=L\/(CC L (zF sd) id dm q).2=0/\(CC L (zF sd) id dm q).1=Iw L (zF sd) id dm q:=by
  rw[CC]
  repeat' split
  ·exact .inl ⟨by simp,rfl⟩
  ·exact .inl ⟨by simp,rfl⟩
  ·exact .inl ⟨by simp,rfl⟩
  ·exact .inr ⟨rfl,rfl⟩
 rcases Uz with⟨e1,e2⟩|⟨e1,e2⟩
 ·rw[eg e1];refine h.set r1 pg ?_ ?_
  ·rw[e2,jK hL];exact h.wh
  ·rw[e2,jK hL];exact h.ids
 ·rw[fh e1];have IW:id∉s.wh.map (·.1):=by
   intro hm;obtain⟨x,hx,rfl⟩:=nn.1 hm;have:=z2a h.keys hx;rw[h.at_]at this;cases hq:pK B x.1 with
   |none=>rw[hq]at this;cases this
   |some j=>rw[hq]at c2;exact c2 rfl
  have hp:(sw 0 (B.set k (CC L (zF sd) id dm q).1)).Perm ((id,(k:Int))::sw 0 B):=by
   refine(hr _).trans (.trans ?_ (MA.symm.cons _));rw[e2,<- uu];refine co _ ?_;have:=(z4r L (zF sd) id dm q).map λi:Int=>(i,(k:Int))
   rw[wx,jg,wx]at this;rw[nt];exact this
  refine h.set r1 pg ?_ ((hp.map (·.1)).nodup_iff.2 (yz.2 ⟨?_,h.ids⟩))
  ·rw[z5a IW];exact(RV _ _).trans ((h.wh.cons _).trans hp.symm)
  ·rw[<- (h.wh.map (·.1)).mem_iff];exact IW
def z2v:∀(n k:Nat),sw k (aj n [])=[]
 |0,_=>rfl
 |n+1,k=>by rw[Ke,sw,z2v];rfl
def yCp (p:fj):(nN p).ga p (aj p.count []):=by
 refine⟨rfl,by simp[nN],λk b L h1 h2=> ?_,?_,?_⟩
 ·have e1:b=og:=XS (kx (show(aj p.count og)[k]? =az b from h1));have e2:L=[]:=XS (kx h2);rw[e1,e2];exact yKv
 ·rw[z2v];exact .refl _
 ·rw[z2v];exact Ou
def y4q (s:Bool):gh:=fp Im (λi=>[.nm 0 0,zB (zF s)]) (λi=>[yA i.b]) (λi=>i.b.ga i.L) (λ_=> .own 1) (λi=>[yA i.b,.own 135 3 ((uF i.L (zF s)).map iq)])
def KZ:gh:=y4q au
def KY:gh:=y4q ar
def xEe (s:Bool) (i:Im):List gu:=[{ι:=Nat,du:=λj=>[(5,.own 0),(19,zB j)],rows:=λj=>[.own 135 3 (((uF i.L (zF s)).take j).map iq)]}]
structure BkT where
 b:dq
 L:List zK
 s:Bool
def aan:gh:=fp BkT (λi=>[.nm 0 0,zB (zF i.s)]) (λi=>[yA i.b]) (λi=>i.b.ga i.L) (λ_=> .own 1) (λi=>[yA i.b,.own 135 3 ((uF i.L (zF i.s)).map iq)])
@[reducible] def yTk (s:gz):List fq:=[qB s 0,qB s 1,qB s 2,qB s 3,qB s 4]
def Gx:gh:=fp gz (λ_=>[.nm 0 0]) (λs=>yTk s) gz.oe (λs=> .own 5) (λs=>yTk s++[.own 198 6 (s.fm.map yC)])
structure Bo where
 s:gz
 p:fj
 B:Q_ zK
 id:Int
 q:Int
def GB:gh where
 ι:=Bo
 pat:=λi=>[.nm 0 0,zB i.id,zB i.q]
 pre:=λi=>[zE i.s]
 dp:=λi=>i.s.ga i.p i.B/\i.B.length<=1000
 alts:=λi=>[{o:=gz,res:=λ_=>zB (iR i.B i.id i.q).2,post:=λs=>[zE s],rel:=λs=>s.ga i.p (iR i.B i.id i.q).1}]
def z8 (B:Q_ zK) (id:Int):Int×zK×Bool:=match pK B id with
 |none=>(0,y9v,au)
 |some k=>(k,bL (B.getD k []) id,ar)
def GC:gh:=fp Bo (λi=>[.nm 0 0,zB i.id]) (λi=>[zE i.s]) (λi=>i.s.ga i.p i.B/\i.B.length<=1000) (λi=> .je [zB (z8 i.B i.id).1,Of (z8 i.B i.id).2.1,yM (z8 i.B i.id).2.2]) (λi=>[zE i.s])
end Sx
