/- Texts of ours. No condition. -/
import Derived.Laws.AppendOwn
import Derived.Lib.AppendZerosOnto
import Derived.Lib.Overlaps
import Derived.Test.YtgmmlhddihaocaaGreatH5
set_option linter.all false
open Go.IntKind renaming i64->aa
open List renaming map->ab,take->ac,drop->ae
open Sx.fw renaming sv->af,cells->ag,own->aj,kh->ak,map->am,kg->ao
open Go.Value renaming int->ap,string->aq
open Bool renaming true->ar,false->au,true_or->av,true_eq_false->aw
open Exists renaming intro->ax
open And renaming intro->ay
open Option renaming some->ba,none->bc
open Go.Builtin renaming zeroCells->be,copy_->bg,firstCells->bo,append_->bu
open Go renaming Value->bv,World->cd,TypeId->ce,Program->cf,Addr->cg,size_zeroCells->ci
namespace Sx
set_option maxRecDepth 100000
open Go Cv Go.Proofs
def fP (a:Bool->Prop) (b:Bool) (c:uv):Prop:=a b/\dm (ag [V.d (dI c.r.kind),V.d (dI c.r.id),V.d (dI c.r.inst),V.d (dI c.r.side),V.d (dI c.r.dp),V.d (dI c.r.dq),V.d (dI c.r.left),V.d (dI c.r.oD)] 49)/\dm (ag [V.d (D.v (aq (sb c.l.p.code))),V.own 5,V.d (dI c.l.p.tick),V.d (dI c.l.p.low),V.d (dI c.l.p.high),V.d (dI c.l.p.wide),V.d (dI c.l.p.gw),V.d (dI c.l.p.top),V.d (dI c.l.p.least),V.d (dI c.l.p.part),V.own 6,V.mp 1,V.mp 2,V.own 3,V.own 4] (102:ce))/\dm (am (z5 c.l.left))/\dm (am (z5 c.l.inst))/\dm (aj 2 1 (iE c.l.jc))/\dm (aj 2 1 (iE c.l.qd))/\dm (ak 1 (iE c.l.p.dr))/\dm (ak 1 (iE c.l.p.settle))
def YC (a:uv) (b:Int) (c:Bool->Prop):Prop:=∃(d:Bool),d=(a.r.left !=aa.wrap (b-a.r.dq))/\fP c d a
def aS (a:Bool->Prop) (b:uv):Prop:=∃(c:Bool),c=au/\fP a c b
def nQ (a:Bool->Prop) (b:uv):Prop:=∃(c:Bool),c=ar/\fP a c b
def U1 (a:uv):Prop:=ak 1 (iE (a.l.add a.r).fst.p.dr)=ak 1 (iE a.l.p.dr)/\ak 1 (iE (a.l.add a.r).fst.p.settle)=ak 1 (iE a.l.p.settle)/\True
def ZK (a:uv):Prop:=iE (a.l.add a.r).fst.qd=iE a.l.qd/\U1 a
def YS (a:uv):Prop:=iE (a.l.add a.r).fst.jc=iE a.l.jc/\ZK a
def rJ (a:uv):Prop:=z5 (a.l.add a.r).fst.inst=z5 a.l.inst/\YS a
@[reducible] def Qd (a:uv)(R:Prop):Prop:=sb (a.l.add a.r).fst.p.code=sb a.l.p.code/\(a.l.add a.r).fst.p.tick=a.l.p.tick/\(a.l.add a.r).fst.p.low=a.l.p.low/\(a.l.add a.r).fst.p.high=a.l.p.high/\(a.l.add a.r).fst.p.wide=a.l.p.wide/\(a.l.add a.r).fst.p.gw=a.l.p.gw/\(a.l.add a.r).fst.p.top=a.l.p.top/\(a.l.add a.r).fst.p.least=a.l.p.least/\(a.l.add a.r).fst.p.part=a.l.p.part/\R
def nH (a:uv):Prop:=Qd a (z5 (a.l.add a.r).fst.left=z5 a.l.left/\rJ a)
def nB (a:uv):Prop:=ez ((a.l.add a.r).snd=24/\nH a)
def Ys (a:uv):Prop:=ez ((a.l.add a.r).snd=20/\nH a)
@[reducible] def NX (a:uv)(b:Int)(R:Prop):Prop:=z5 (a.l.add a.r).fst.inst=z5 a.l.inst/\iE (a.l.add a.r).fst.jc=zX (iE a.l.jc) a.r.inst.toNat 0 [dI (aa.wrap (b+a.r.dq))]/\R
def Vj (a:uv) (b:Int) (c:Int):Prop:=NX a b (iE (a.l.add a.r).fst.qd=zX (iE a.l.qd) a.r.inst.toNat 0 [dI (aa.wrap (c-a.r.dq))]/\U1 a)
def UM (a:uv) (b:Int) (c:Int):Prop:=NX a b (iE (a.l.add a.r).fst.qd=zX (iE a.l.qd) a.r.inst.toNat 0 [dI (aa.wrap (c+a.r.dq))]/\U1 a)
def U9 (a:uv) (b:Int):Prop:=NX a b (ZK a)
def UZ (a:uv) (b:Int) (c:Bool):Prop:=kH (ap aa a.r.id) (z5 a.l.left)=ba [dI b]/\c=ar\/kH (ap aa a.r.id) (z5 a.l.left)=bc/\[dI b]=[dI 0]/\c=au
def Vf (a:uv) (b:Int) (c:Bool):Prop:=kH (ap aa a.r.id) (z5 a.l.inst)=ba [dI b]/\c=ar\/kH (ap aa a.r.id) (z5 a.l.inst)=bc/\[dI b]=[dI 0]/\c=au
def rP (a:uv):Prop:=∀(b:bv×List D),b∈jI (ap aa a.r.id) [dI a.r.left] (z5 a.l.left)->kr (ap aa a.r.id) b.fst=ar
def gT (a:uv):Prop:=∀(b:bv×List D),b∈z5 a.l.left->kr (ap aa a.r.id) b.fst=ar
def Vd (a:uv):Prop:=∀(b:bv×List D),b∈z5 a.l.inst->kr (ap aa a.r.id) b.fst=ar
def rQ (a:uv):Prop:=0<=a.r.inst/\a.r.inst<(↑(iE a.l.jc).length:Int)
def sO (a:uv):=(jI (ap aa a.r.id) [dI a.r.left] (z5 a.l.left))
def gH (a:uv):=(↑(iE a.l.qd).length:Int)
@[reducible] def QJ (a:uv)(b:Int)(R:Prop):Prop:=zF (iE a.l.qd) a.r.inst.toNat 0 1=ba [dI b]/\(0<=a.r.inst/\a.r.inst<(gH a))/\a.r.inst.toNat<(iE a.l.qd).length/\R
def yYs (i:uv):Prop:=
 ∃(a:Bool),∃(b:Bool->Prop),du (decide (i.r.kind<1)) (nQ b i) (∃(c:Bool),c=decide (i.r.kind>5)/\fP b c i)/\∀(c:Bool),b c->du c (ez ((i.l.add i.r).snd=31/\nH i)) (du (i.r.kind==2) (ez ((i.l.add i.r).snd=0/\nH i)) (∃(d:Bool),∃(e:Bool->Prop),du (decide (i.r.inst>=0)) (∃(f:Bool),f=!decide (i.r.inst<(↑(iE i.l.jc).length:Int))/\fP e f i) (∃(f:Bool),f=!false/\fP e f i)/\∀(f:Bool),e f->du f (Ys i) (du (i.r.kind==1) ((gT i)/\∃(g:Bool),∃(h:Int),(UZ i h g)/\du g (ez ((i.l.add i.r).snd=25/\nH i)) (du (decide (i.r.dq<1)) (nB i) (du (i.r.dq !=i.r.left) (nB i) ((gT i)/\∃(j:Bool),∃(k:Int),(UZ i k j)/\∀(l:Int),dm i.r.inst/\dm i.r.left/\dm i.r.id/\l=l/\(∀(m:bv×List D),m∈jI (ap aa i.r.id) [dI k] (z5 i.l.left)->kr (ap aa i.r.id) m.fst=ar)/\dm i.r.inst/\dm i.r.id/\(Vd i)/\∃(m:Bool),∃(n:Int),(Vf i n m)/\∀(p:Int),dm i.r.inst/\p=p/\(∀(q:bv×List D),q∈jI (ap aa i.r.id) [dI n] (z5 i.l.inst)->kr (ap aa i.r.id) q.fst=ar)/\ez ((i.l.add i.r).snd=0/\Qd i (z5 (i.l.add i.r).fst.left=jI (ap aa i.r.id) [dI i.r.left] (jI (ap aa i.r.id) [dI k] (z5 i.l.left))/\z5 (i.l.add i.r).fst.inst=jI (ap aa i.r.id) [dI i.r.inst] (jI (ap aa i.r.id) [dI n] (z5 i.l.inst))/\YS i)))))) (∃(g:Bool),∃(h:Bool->Prop),du (i.r.kind==3) ((Vd i)/\∃(j:Bool),∃(k:Int),(Vf i k j)/\∃(l:b6),Qa l.p i.l.p (l.n=k/\(kM l)/\fp (du j (du (l.p.gf l.n).snd.snd (du (i.r.inst==(l.p.gf l.n).fst) (nQ h i) (∃(n:Bool),n=(i.r.inst==(l.p.gf l.n).snd.fst)/\fP h n i)) (aS h i)) (aS h i)))) (aS h i)/\∀(j:Bool),h j->du j (du (decide (i.r.dq<1)) (nB i) ((rQ i)/\∃(k:Int),zF (iE i.l.jc) i.r.inst.toNat 0 1=ba [dI k]/\(rQ i)/\i.r.inst.toNat<(iE i.l.jc).length/\du (i.r.side==1) ((0<=i.r.inst/\i.r.inst<(gH i))/\∃(l:Int),QJ i l (ez ((i.l.add i.r).snd=0/\Qd i (z5 (i.l.add i.r).fst.left=z5 i.l.left/\UM i k l)))) (du (i.r.side==2) ((0<=i.r.inst/\i.r.inst<(gH i))/\∃(l:Int),QJ i l (ez ((i.l.add i.r).snd=0/\Qd i (z5 (i.l.add i.r).fst.left=z5 i.l.left/\Vj i k l)))) (ez ((i.l.add i.r).snd=0/\Qd i (z5 (i.l.add i.r).fst.left=z5 i.l.left/\U9 i k)))))) ((gT i)/\∃(k:Bool),∃(l:Int),(UZ i l k)/\du (!k) (ez ((i.l.add i.r).snd=26/\nH i)) (∃(m:Bool),∃(n:Bool->Prop),du (i.r.kind==3) ((Vd i)/\∃(p:Bool),∃(q:Int),(Vf i q p)/\∃(r:Bool),r=(i.r.inst !=q)/\fP n r i) (aS n i)/\∀(p:Bool),n p->du p (Ys i) (∃(q:Bool),∃(r:Bool->Prop),du (i.r.kind==3) (du (decide (i.r.dq<1)) (nQ r i) (du (decide (i.r.dq>l)) (nQ r i) (YC i l r))) (aS r i)/\∀(s:Bool),r s->du s (nB i) (∃(t:Bool),∃(u:Bool->Prop),du (i.r.kind==4) (∃(v:Bool),v=(i.r.dq !=l)/\fP u v i) (aS u i)/\∀(v:Bool),u v->du v (nB i) (∃(w:Bool),∃(x:Bool->Prop),du (i.r.kind==5) (du (decide (i.r.dq<0)) (nQ x i) (du (decide (i.r.dq>=l)) (nQ x i) (YC i l x))) (aS x i)/\∀(y:Bool),x y->du y (nB i) (du (i.r.kind==3) ((rQ i)/\∃(z:Int),zF (iE i.l.jc) i.r.inst.toNat 0 1=ba [dI z]/\(rQ i)/\i.r.inst.toNat<(iE i.l.jc).length/\du (i.r.side==1) ((0<=i.r.inst/\i.r.inst<(gH i))/\∃(ma:Int),QJ i ma ((gT i)/\du (i.r.left==0) ((rP i)/\ez ((i.l.add i.r).snd=0/\Qd i (z5 (i.l.add i.r).fst.left=rC (ap aa i.r.id) (sO i)/\UM i z ma))) (ez ((i.l.add i.r).snd=0/\Qd i (z5 (i.l.add i.r).fst.left=jI (ap aa i.r.id) [dI i.r.left] (z5 i.l.left)/\UM i z ma))))) (du (i.r.side==2) ((0<=i.r.inst/\i.r.inst<(gH i))/\∃(ma:Int),QJ i ma ((gT i)/\du (i.r.left==0) ((rP i)/\ez ((i.l.add i.r).snd=0/\Qd i (z5 (i.l.add i.r).fst.left=rC (ap aa i.r.id) (sO i)/\Vj i z ma))) (ez ((i.l.add i.r).snd=0/\Qd i (z5 (i.l.add i.r).fst.left=jI (ap aa i.r.id) [dI i.r.left] (z5 i.l.left)/\Vj i z ma))))) ((gT i)/\du (i.r.left==0) ((rP i)/\ez ((i.l.add i.r).snd=0/\Qd i (z5 (i.l.add i.r).fst.left=rC (ap aa i.r.id) (sO i)/\U9 i z))) (ez ((i.l.add i.r).snd=0/\Qd i (z5 (i.l.add i.r).fst.left=jI (ap aa i.r.id) [dI i.r.left] (z5 i.l.left)/\U9 i z)))))) (du (i.r.kind==4) ((gT i)/\(∀(z:bv×List D),z∈jI (ap aa i.r.id) [dI 0] (z5 i.l.left)->kr (ap aa i.r.id) z.fst=ar)/\ez ((i.l.add i.r).snd=0/\Qd i (z5 (i.l.add i.r).fst.left=rC (ap aa i.r.id) (jI (ap aa i.r.id) [dI 0] (z5 i.l.left))/\rJ i))) ((gT i)/\du (i.r.left==0) ((rP i)/\ez ((i.l.add i.r).snd=0/\Qd i (z5 (i.l.add i.r).fst.left=rC (ap aa i.r.id) (sO i)/\rJ i))) (ez ((i.l.add i.r).snd=0/\Qd i (z5 (i.l.add i.r).fst.left=jI (ap aa i.r.id) [dI i.r.left] (z5 i.l.left)/\rJ i)))))))))))))))
def jG (l:List (Int×Int)) (k:Int):∀(p:bv×List D),p∈z5 l->kr (ap aa k) p.1=ar:=λp hp=>yMi l k p hp
def XP (k v:Int):∀l,jI (ap aa k) [D.v (.int .i64 v)] (z5 l)=z5 (dV k v l)
 |[]=>rfl
 |(a,b)::l=>by
  have ih:=XP k v l;show(bif (xw .i64 .i64 && decide (k=a))then _ else _::jI _ _ (z5 l))=_;rw[ih,dV];by_cases h:k=a
  ·subst h;simp[xw,z5]
  ·simp[h,z5]
def XJ (k:Int):∀l,rC (ap aa k) (z5 l)=z5 (DK k l)
 |[]=>rfl
 |(a,b)::l=>by
  have ih:=XJ k l;show(bif (xw .i64 .i64 && decide (k=a))then z5 l else _::rC _ (z5 l))=_;rw[ih,DK];by_cases h:k=a
  ·subst h;simp[xw]
  ·simp[h,z5]
def Ky (l:List (Int×Int)) (k:Int):kH (ap aa k) (z5 l)=ba [D.v (.int .i64 ((jW l k).getD 0))]/\(jW l k).isSome=ar\/kH (ap aa k) (z5 l)=bc/\[D.v (.int .i64 ((jW l k).getD 0))]=[D.v (.int .i64 0)]/\(jW l k).isSome=au:=by
 rw[rL];cases jW l k with
 |none=>exact .inr ⟨rfl,rfl,rfl⟩
 |some v=>exact .inl ⟨rfl,rfl⟩
def zWx (k v n:Int):∀l,dV k v (dV k n l)=dV k v l
 |[]=>by simp[dV]
 |(a,b)::l=>by
  have ih:=zWx k v n l;by_cases h:k=a
  ·subst h;simp[dV]
  ·simp[dV,h,ih]
def z2l (x:Int):∀(l:List Int) (n:Nat),zX (iE l) n 0 [D.v (.int .i64 x)]=iE (l.set n x)
 |[],n=>by cases n<;>rfl
 |a::l,0=>rfl
 |a::l,n+1=>by
  have ih:=z2l x l n;simp only[zX,iE,iT,Nq,Jl]at ih ⊢;rw[ih]
def MX {l:List Int} {n:Int} (h:0<=n/\n<(l.length:Int)):zF (iE l) n.toNat 0 1=ba [D.v (.int .i64 (l.getD n.toNat 0))]:=by
 obtain⟨v,hv⟩:=z6 (l:=l) (i:=n.toNat) oM;rw[mi,hv];exact rz hv
def X3 (a b:Int):(a==b)=decide (a=b):=by
 by_cases h:a=b
 ·subst h;simp
 ·simp[h]
def UE (a b:Int):(a !=b)=decide (a≠b):=by
 by_cases h:a=b
 ·subst h;simp
 ·simp[h]
def y6y (i:uv) (h:FF.du i):yYs i:=by
 obtain⟨⟨h1,h2⟩,hs⟩:i.l.fit:=h;have lk:=jG i.l.left i.r.id;have lk2:=jG i.l.inst i.r.id;have Wm:=jG (dV i.r.id i.r.left i.l.left) i.r.id;have lk4:=jG (dV i.r.id 0 i.l.left) i.r.id;unfold yYs QJ Qa fp ez Qd Ys ez nB ez nH Qd nQ aS gH YC fP sO rQ Vd gT rP Vf UZ rJ YS U9 NX ZK UM NX Vj NX U1 kM Q8 dI;simp only[yW,XP,XJ,z2l];refine⟨ar,λb=>b=i.r.CE,Cv.du.mk (λc=>⟨ar,rfl,?_,ic⟩) (λc=>⟨_,rfl,?_,ic⟩),λb hb=> ?_⟩
 ·simp only[fy.CE,c,av]
 ·simp only[fy.CE,c,CT]
 subst hb;refine Cv.du.mk (λhb=> ?_) (λhb=> ?_)
 ·have ha:i.l.add i.r=(i.l,31):=by simp only[fa.add,hb,if_true]
  simp only[ha];exact kp
 refine Cv.du.mk (λk2=> ?_) (λk2=> ?_)
 ·have k2:i.r.kind=2:=by simpa using k2
  have ha:i.l.add i.r=(i.l,0):=by simp only[fa.add,hb,k2,if_true,nr,if_false]
  simp only[ha];exact kp
 have k2:¬i.r.kind=2:=by simpa using k2
 refine⟨ar,λb=>b= !i.l.Bk i.r.inst,Cv.du.mk (λc=>⟨_,rfl,?_,ic⟩) (λc=>⟨_,rfl,?_,ic⟩),λb hb=> ?_⟩
 ·have c:0<=i.r.inst:=by simpa using c
  simp only[fa.Bk,kx c,qj]
 ·have c:¬0<=i.r.inst:=by simpa using c
  simp only[fa.Bk,jq c,vd]
 subst hb;refine Cv.du.mk (λhi=> ?_) (λhi=> ?_)
 ·have hi:i.l.Bk i.r.inst=au:=by simpa using hi
  have ha:i.l.add i.r=(i.l,20):=by simp only[fa.add,hb,k2,hi,if_true,nr,if_false]
  simp only[ha];exact kp
 have hi:i.l.Bk i.r.inst=ar:=by simpa using hi
 have qt:0<=i.r.inst/\i.r.inst<(i.l.jc.length:Int):=by simpa[fa.Bk]using hi
 have yd:0<=i.r.inst/\i.r.inst<(i.l.qd.length:Int):=by rw[h2];exact qt
 refine Cv.du.mk (λk1=> ?_) (λk1=> ?_)
 ·have k1:i.r.kind=1:=by simpa using k1
  have e0:i.l.add i.r=i.l.acc i.r:=by simp only[fa.add,hb,k1,hi,if_true,nr,if_false,reduceCtorEq,show ¬(1:Int)=2 by decide,show ¬(ar=au)by decide]
  refine⟨lk,(jW i.l.left i.r.id).isSome,(jW i.l.left i.r.id).getD 0,Ky _ _,Cv.du.mk (λc=> ?_) (λc=> ?_)⟩
  ·have ha:i.l.add i.r=(i.l,25):=by rw[e0,fa.acc,fk c]
   simp only[ha];exact kp
  ·refine Cv.du.mk (λd=> ?_) (λd=> ?_)
   ·have d:i.r.dq<1:=by simpa using d
    have ha:i.l.add i.r=(i.l,24):=by rw[e0,fa.acc,dx (by rw[c];decide),fk (.inl d)]
    simp only[ha];exact kp
   have d:¬i.r.dq<1:=by simpa using d
   refine Cv.du.mk (λe=> ?_) (λe=> ?_)
   ·have e:i.r.dq≠i.r.left:=by simpa using e
    have ha:i.l.add i.r=(i.l,24):=by rw[e0,fa.acc,dx (by rw[c];decide),fk (.inr e)]
    simp only[ha];exact kp
   have e:i.r.dq=i.r.left:=by simpa using e
   have ha:i.l.add i.r=({i.l with left:=dV i.r.id i.r.left i.l.left,inst:=dV i.r.id i.r.inst i.l.inst},0):=by rw[e0,fa.acc,dx (by rw[c];decide),dx (by rintro(h|h);exact d h;exact h e)]
   refine⟨lk,(jW i.l.left i.r.id).isSome,(jW i.l.left i.r.id).getD 0,Ky _ _,λx=>⟨trivial,trivial,trivial,trivial,jG _ _,trivial,trivial,lk2,(jW i.l.inst i.r.id).isSome,(jW i.l.inst i.r.id).getD 0,Ky _ _,λy=>⟨trivial,trivial,jG _ _,?_⟩⟩⟩;simp only[ha,zWx];exact kp
 have k1:¬i.r.kind=1:=by simpa using k1
 refine⟨ar,λb=>b=i.l.ri i.r,Cv.du.mk (λk3=> ?_) (λk3=>⟨_,rfl,?_,ic⟩),λb hl=> ?_⟩
 ·have k3:i.r.kind=3:=by simpa using k3
  refine⟨lk2,(jW i.l.inst i.r.id).isSome,(jW i.l.inst i.r.id).getD 0,Ky _ _,⟨i.l.p,i.l.own i.r.id⟩,rfl,rfl,rfl,rfl,rfl,rfl,rfl,rfl,rfl,rfl,rfl,rfl,hs,λ_ _=> ?_⟩;refine Cv.du.mk (λc=>Cv.du.mk (λd=>Cv.du.mk (λe=>⟨_,rfl,?_,ic⟩) (λe=>⟨_,rfl,?_,ic⟩)) (λd=>⟨_,rfl,?_,ic⟩)) (λc=>⟨_,rfl,?_,ic⟩)
  ·have e:i.r.inst=(i.l.p.gf (i.l.own i.r.id)).1:=by simpa using e
   have d:(i.l.p.gf (i.l.own i.r.id)).2.2=ar:=d;simp only[fa.ri,k3,fa.Cu,c,d,kx e,decide_true,qj,av]
  ·have e:¬i.r.inst=(i.l.p.gf (i.l.own i.r.id)).1:=by simpa using e
   have d:(i.l.p.gf (i.l.own i.r.id)).2.2=ar:=d;simp only[fa.ri,k3,fa.Cu,c,d,jq e,decide_true,qj,CT];exact X3 _ _
  ·have d:(i.l.p.gf (i.l.own i.r.id)).2.2=au:=d;simp only[fa.ri,k3,fa.Cu,c,d,decide_true,qj,vd]
  ·simp only[fa.ri,k3,fa.Cu,c,decide_true,qj,vd]
 ·have k3:¬i.r.kind=3:=by simpa using k3
  simp only[fa.ri,jq k3,vd]
 subst hl;refine Cv.du.mk (λhl=> ?_) (λhl=> ?_)
 ·refine Cv.du.mk (λc=> ?_) (λc=> ?_)
  ·have c:i.r.dq<1:=by simpa using c
   have ha:i.l.add i.r=(i.l,24):=by simp only[fa.add,hb,k2,hi,k1,hl,c,if_true,nr,if_false,aw]
   simp only[ha];exact kp
  have c:¬i.r.dq<1:=by simpa using c
  have ha:i.l.add i.r=(i.l.om i.r,0):=by simp only[fa.add,hb,k2,hi,k1,hl,c,if_true,nr,if_false,aw]
  refine⟨qt,_,MX qt,qt,oM,Cv.du.mk (λs1=>⟨yd,_,MX yd,yd,oM,?_⟩) (λs1=>Cv.du.mk (λs2=>⟨yd,_,MX yd,yd,oM,?_⟩) (λs2=> ?_))⟩
  ·have s1:i.r.side=1:=by simpa using s1
   simp only[ha,fa.om,GP,s1,if_true];exact kp
  ·have s1:¬i.r.side=1:=by simpa using s1
   have s2:i.r.side=2:=by simpa using s2
   simp only[ha,fa.om,GP,My,s2,if_true,show ¬(2:Int)=1 by decide,if_false];exact kp
  ·have s1:¬i.r.side=1:=by simpa using s1
   have s2:¬i.r.side=2:=by simpa using s2
   simp only[ha,fa.om,GP,s1,s2,if_false];exact kp
 refine⟨lk,(jW i.l.left i.r.id).isSome,(jW i.l.left i.r.id).getD 0,Ky _ _,Cv.du.mk (λc=> ?_) (λc=> ?_)⟩
 ·have c:jW i.l.left i.r.id=bc:=by simpa using c
  have ha:i.l.add i.r=(i.l,26):=by simp only[fa.add,hb,k2,hi,k1,hl,c,if_true,nr,if_false,aw]
  simp only[ha];exact kp
 obtain⟨left,xp⟩:∃n,jW i.l.left i.r.id=ba n:=Pq.1 (by simpa using c);have BD:i.l.add i.r=if i.l.e1 i.r=ar then(i.l,20)else if i.r.e2 left=ar then(i.l,24)else if i.r.e3 left=ar then(i.l,24)else if i.r.e4 left=ar then(i.l,24)else(i.l.done i.r,0):=by
  simp only[fa.add,hb,k2,hi,k1,hl,xp,nr,if_false,aw]
 simp only[xp,zj];refine⟨ar,λb=>b=i.l.e1 i.r,Cv.du.mk (λk3=>⟨lk2,(jW i.l.inst i.r.id).isSome,(jW i.l.inst i.r.id).getD 0,Ky _ _,_,rfl,?_,ic⟩) (λk3=>⟨_,rfl,?_,ic⟩),λb e1=> ?_⟩
 ·have k3:i.r.kind=3:=by simpa using k3
  simp only[fa.e1,k3,decide_true,qj,fa.own];exact UE _ _
 ·have k3:¬i.r.kind=3:=by simpa using k3
  simp only[fa.e1,jq k3,vd]
 subst e1;refine Cv.du.mk (λe1=> ?_) (λe1=> ?_)
 ·have ha:i.l.add i.r=(i.l,20):=by rw[BD,fk e1]
  simp only[ha];exact kp
 have e1:¬i.l.e1 i.r=ar:=by simpa using e1
 refine⟨ar,λb=>b=i.r.e2 left,Cv.du.mk (λk3=>Cv.du.mk (λc=>⟨_,rfl,?_,ic⟩) (λc=>Cv.du.mk (λd=>⟨_,rfl,?_,ic⟩) (λd=>⟨_,rfl,?_,ic⟩))) (λk3=>⟨_,rfl,?_,ic⟩),λb e2=> ?_⟩
 ·have k3:i.r.kind=3:=by simpa using k3
  simp only[fy.e2,k3,c,decide_true,qj,av]
 ·have k3:i.r.kind=3:=by simpa using k3
  simp only[fy.e2,k3,c,d,decide_true,qj,av,CT]
 ·have k3:i.r.kind=3:=by simpa using k3
  simp only[fy.e2,k3,c,d,decide_true,qj,CT];exact UE _ _
 ·have k3:¬i.r.kind=3:=by simpa using k3
  simp only[fy.e2,jq k3,vd]
 subst e2;refine Cv.du.mk (λe2=> ?_) (λe2=> ?_)
 ·have ha:i.l.add i.r=(i.l,24):=by rw[BD,dx e1,fk e2]
  simp only[ha];exact kp
 have e2:¬i.r.e2 left=ar:=by simpa using e2
 refine⟨ar,λb=>b=i.r.e3 left,Cv.du.mk (λk3=>⟨_,rfl,?_,ic⟩) (λk3=>⟨_,rfl,?_,ic⟩),λb e3=> ?_⟩
 ·have k3:i.r.kind=4:=by simpa using k3
  simp only[fy.e3,k3,decide_true,qj];exact UE _ _
 ·have k3:¬i.r.kind=4:=by simpa using k3
  simp only[fy.e3,jq k3,vd]
 subst e3;refine Cv.du.mk (λe3=> ?_) (λe3=> ?_)
 ·have ha:i.l.add i.r=(i.l,24):=by rw[BD,dx e1,dx e2,fk e3]
  simp only[ha];exact kp
 have e3:¬i.r.e3 left=ar:=by simpa using e3
 refine⟨ar,λb=>b=i.r.e4 left,Cv.du.mk (λk3=>Cv.du.mk (λc=>⟨_,rfl,?_,ic⟩) (λc=>Cv.du.mk (λd=>⟨_,rfl,?_,ic⟩) (λd=>⟨_,rfl,?_,ic⟩))) (λk3=>⟨_,rfl,?_,ic⟩),λb e4=> ?_⟩
 ·have k3:i.r.kind=5:=by simpa using k3
  simp only[fy.e4,k3,c,decide_true,qj,av]
 ·have k3:i.r.kind=5:=by simpa using k3
  simp only[fy.e4,k3,c,d,decide_true,qj,av,CT]
 ·have k3:i.r.kind=5:=by simpa using k3
  simp only[fy.e4,k3,c,d,decide_true,qj,CT];exact UE _ _
 ·have k3:¬i.r.kind=5:=by simpa using k3
  simp only[fy.e4,jq k3,vd]
 subst e4;refine Cv.du.mk (λe4=> ?_) (λe4=> ?_)
 ·have ha:i.l.add i.r=(i.l,24):=by rw[BD,dx e1,dx e2,dx e3,fk e4]
  simp only[ha];exact kp
 have e4:¬i.r.e4 left=ar:=by simpa using e4
 have ha:i.l.add i.r=(i.l.done i.r,0):=by rw[BD,dx e1,dx e2,dx e3,dx e4]
 clear BD;refine Cv.du.mk (λk3=> ?_) (λk3=> ?_)
 ·have k3:i.r.kind=3:=by simpa using k3
  have hd:i.l.done i.r=(i.l.om i.r).close i.r.id i.r.left:=by rw[fa.done,fk k3]
  rw[hd]at ha;refine⟨qt,_,MX qt,qt,oM,Cv.du.mk (λs1=>⟨yd,_,MX yd,yd,oM,lk,Cv.du.mk (λc=>⟨Wm,?_⟩) (λc=> ?_)⟩) (λs1=>Cv.du.mk (λs2=>⟨yd,_,MX yd,yd,oM,lk,Cv.du.mk (λc=>⟨Wm,?_⟩) (λc=> ?_)⟩) (λs2=>⟨lk,Cv.du.mk (λc=>⟨Wm,?_⟩) (λc=> ?_)⟩))⟩
  all_goals first|have s1:i.r.side=1:=(by simpa using s1)|have s1:¬i.r.side=1:=(by simpa using s1)
  all_goals first|have c:i.r.left=0:=(by simpa using c)|have c:¬i.r.left=0:=(by simpa using c)
  all_goals first|have s2:i.r.side=2:=(by simpa using s2)|have s2:¬i.r.side=2:=(by simpa using s2)|skip
  all_goals(simp only[ha,fa.close,fa.om,GP,My,s1,c,if_true,if_false];(try simp only[s2,if_true,if_false]);(repeat'(first|exact rfl|exact trivial|assumption|apply ay|refineλ(_:Unit) (_:True)=>?_|refine ax () ?_|omega|(dsimp only;omega))))
 have k3:¬i.r.kind=3:=by simpa using k3
 refine Cv.du.mk (λk4=> ?_) (λk4=> ?_)
 ·have k4:i.r.kind=4:=by simpa using k4
  have hd:i.l.done i.r=i.l.close i.r.id 0:=by rw[fa.done,dx k3,fk k4]
  rw[hd]at ha;simp only[ha,fa.close,if_true];exact kp
 have k4:¬i.r.kind=4:=by simpa using k4
 have hd:i.l.done i.r=i.l.close i.r.id i.r.left:=by rw[fa.done,dx k3,dx k4]
 rw[hd]at ha;refine⟨lk,Cv.du.mk (λc=>⟨Wm,?_⟩) (λc=> ?_)⟩
 ·have c:i.r.left=0:=by simpa using c
  simp only[ha,fa.close,c,if_true];exact kp
 ·have c:¬i.r.left=0:=by simpa using c
  simp only[ha,fa.close,c,if_false];exact kp
def DB:FF.ok Tryz.prog 13:=ix mixed (dz tG fx) 1 (λ_=>y7y) (λ_=>[]) [0] Tryz.func13 y6y
def ZJ (l:List Int) (n:Nat) (x:Int):(GP l n x).length=l.length:=by simp[GP]
def yGz (l:List Int) (n:Nat) (x:Int):(My l n x).length=l.length:=by simp[My]
def fa.Ee {l:fa} (h:l.fit) (r:fy):(l.om r).fit:=by
 obtain⟨⟨h1,h2⟩,h3⟩:=h;refine⟨⟨by rw[fa.om];dsimp only;rw[ZJ];exact h1,?_⟩,h3⟩;rw[fa.om];dsimp only;rw[ZJ];split
 ·rw[ZJ];exact h2
 ·split
  ·rw[yGz];exact h2
  ·exact h2
def fa.DH {l:fa} (h:l.fit) (r:fy):(l.add r).1.fit:=by
 have ht:=fa.Ee h r;unfold fa.add fa.acc
 repeat' split
 all_goals first|exact h|exact ht|skip
 all_goals(unfold fa.done fa.close;repeat' split)
 all_goals first|exact h|exact ht
def eE:∀{xs:List fy} {l:fa},l.fit->(l.gy xs).1.fit
 |[],l,h=>h
 |r::xs,l,h=>by
  rw[fa.gy];split
  ·exact fa.DH h r
  ·exact eE (fa.DH h r)
def bZ:∀(a b:List fy) (l:fa),l.gy (a++b)=if(l.gy a).2≠0 then l.gy a else(l.gy a).1.gy b
 |[],b,l=>by simp[fa.gy]
 |r::a,b,l=>by
  rw[tu,fa.gy,fa.gy];by_cases h:(l.add r).2=0
  ·simp only[h,ne_eq,not_true_eq_false,if_false];exact bZ a b _
  ·rw[fk h,fk h,fk h]
def zFn (r:fy) (l:fa):l.gy [r]=l.add r:=by
 rw[fa.gy];split
 ·rfl
 ·rename_i h;have h:(l.add r).2=0:=by simpa using h
  rw[fa.gy,<- h]
def pQ {xs:List fy} {j:Nat} {r:fy} (hr:xs[j]? =ba r) {l:fa} (h:(l.gy (xs.take j)).2=0):l.gy (xs.take (j+1))=(l.gy (xs.take j)).1.add r:=by
 rw[tv,hr,DP,bZ,dx (by simp[h]),zFn]
def z5x {xs:List fy} {j:Nat} {r:fy} (hr:xs[j]? =ba r) {l:fa} (h:(l.gy (xs.take j)).2=0) (he:((l.gy (xs.take j)).1.add r).2≠0):l.gy xs=(l.gy (xs.take j)).1.add r:=by
 have e:=pQ hr h;have e2:=bZ (xs.take (j+1)) (xs.drop (j+1)) l;rw[A3]at e2;rw[e2,fk (by rw[e];exact he),e]
def z2k {p:fj} (h:p.small):(jU p).fit:=by
 have:=xQ p;exact⟨⟨by simp only[jU,CW];omega,by simp only[jU,CW]⟩,h⟩
def xCd {l:List fy} {k:Nat} {r:fy} (h:l[k]? =ba r):zF (l.map yX) k 0 8=ba [D.v (.int .i64 r.kind),.v (.int .i64 r.id),.v (.int .i64 r.inst),.v (.int .i64 r.side),.v (.int .i64 r.dp),.v (.int .i64 r.dq),.v (.int .i64 r.left),.v (.int .i64 r.oD)]:=kf h (by simp[yX]) rfl
def z2e (n:Int):(cY n).small:=⟨by simp[cY],by simp[cY],by simp[cY]⟩
def yY {n lo hi:Int} (h:lo<=hi):lo<=zH n lo hi/\zH n lo hi<=hi:=by
 rw[zH];have h1:=Ni n (show hi-lo+1≠0 by omega);have h2:=Pl n (show 0<hi-lo+1 by omega);omega
open Go Go.RowKit Cv
def UF {P:cf} {dT sT ty e sz oO:Nat} {z:Array bv} (hi:gD P dT=ba (e,sz,oO,z)) {w:cd} {g o dLen dCap b so sLen sCap n:Nat} {cur src:List bv} {T T':ce} {fr:Nat×Nat}
 (hg:w.heap[g]? =ba (.cells cur.toArray T (0,0))) (hs:w.heap[b]? =ba (.cells src.toArray T' fr)) (hn:Nat.min sLen dLen=n) (h1:so+n*sz<=src.length) (h2:o+n*sz<=cur.length)
 (D':∀v∈(src.drop so).take (n*sz),v.oz=ar):
 fS P (bg #[dT,sT] ty #[.slice (ba ⟨g,o,bc⟩) dLen dCap,.slice (ba ⟨b,so,bc⟩) sLen sCap]) w (.int .i64 n) (World.ja w g (.cells (lj cur o ((src.drop so).take (n*sz))).toArray T (0,0))):=by
 obtain⟨i,zv,q1,q2,rfl,rfl,q5,rfl⟩:=jF hi;have hl:((src.drop so).take (n*i.size)).length=n*i.size:=by rw[oK,qc];omega
 have jy:=vA (P:=P) ((src.drop so).take (n*i.size)) 0 o cur w hg (by rw[hl];omega) D';simp only[E8]at jy;unfold fS bg;simp only[A4,CX,A5,bind,pure,run_bind,Sem.bind,Sem.run,Cv.run_underlying q1,Cv.run_sizeOf q2,Builtin.lenOf,hn,bo,fM hs h1,jy];rfl
def Hp.apart {k:Ko} {w:cd} {b c:Nat} {o o':Obj} {L:List HP} (H:Hp k w (pt b o::pt c o'::L)):b≠c:=by
 obtain⟨hk,hs,hh⟩:=H;cases hh with
 |cons ha jb hd hr=>
  cases hr with
  |cons hb J9 AG wx=>
   intro e;subst e;have:=hd _ jg b;rw[show _=one b o from ha,show _=one b o' from hb]at this;simp[one]at this
def y5q (P:cf) (tS tI sz fO fR:Nat) (s:Option cg) (sn sk:Nat) (i:Int) (v:Option cg) (vn vk:Nat) (w:cd) (R:Ending->cd->Prop):Prop:=
uq s sn sk (ba i) bc sz λa1 na1 ka1=>
du (((vn:Int):Int)==0) (
R (.returned (.slice s sn sk)) w) (
du ((i:Int)==(sn:Int)) (
∃(a2:Option cg) (na2 ka2:Nat),∃w3:cd,fS P (bu #[tS,tS] tS #[.slice s sn sk,.slice v vn vk]) w (.slice a2 na2 ka2) w3/\
R (.returned (.slice a2 na2 ka2)) w3) (
du (decide ((aa.wrap ((sn:Int)+(vn:Int)):Int)>(sk:Int))) (
uq s sn sk bc (ba i) sz λa4 na4 ka4=>
∃(a5:Option cg) (HF Js:Nat),∃w6:cd,fS P (bu #[tS,tI] tS #[.slice a4 na4 ka4,.int .i64 (aa.wrap (aa.wrap ((sn:Int)+(vn:Int))-i))]) w (.slice a5 HF Js) w6/\
uq a5 HF Js (ba i) bc sz λa7 na7 ka7=>
∃x8:Int,∃w9:cd,fS P (bg #[tS,tS] tI #[.slice a7 na7 ka7,.slice v vn vk]) w6 (.int .i64 x8) w9/\
VY w9 λw10=>
uq a5 HF Js (ba (aa.wrap (i+(vn:Int)))) bc sz λa11 aaj aav=>
uq s sn sk (ba i) bc sz λa12 aai aau=>
∃x13:Int,∃w14:cd,fS P (bg #[tS,tS] tI #[.slice a11 aaj aav,.slice a12 aai aau]) w10 (.int .i64 x13) w14/\
R (.returned (.slice a5 HF Js)) w14) (
uq s sn sk bc (ba (aa.wrap ((sn:Int)+(vn:Int)))) sz λJI By Bz=>
uq JI By Bz (ba (aa.wrap (i+(vn:Int)))) bc sz λa16 aah aat=>
∃c17:Bool,∃w18:cd,Cv.Ext P fO #[.slice v vn vk,.slice a16 aah aat] w (.bool c17) w18/\
du (!c17) (
VY w18 λw19=>
uq JI By Bz (ba (aa.wrap (i+(vn:Int)))) bc sz λa20 aag aas=>
uq JI By Bz (ba i) bc sz λa21 aaf aar=>
∃x22:Int,∃w23:cd,fS P (bg #[tS,tS] tI #[.slice a20 aag aas,.slice a21 aaf aar]) w19 (.int .i64 x22) w23/\
uq JI By Bz (ba i) bc sz λa24 aae aaq=>
∃x25:Int,∃w26:cd,fS P (bg #[tS,tS] tI #[.slice a24 aae aaq,.slice v vn vk]) w23 (.int .i64 x25) w26/\
R (.returned (.slice JI By Bz)) w26) (
uq JI By Bz (ba (sn:Int)) bc sz λa27 aad aap=>
∃x28:Int,∃w29:cd,fS P (bg #[tS,tS] tI #[.slice a27 aad aap,.slice v vn vk]) w18 (.int .i64 x28) w29/\
uq JI By Bz (ba i) bc sz λa30 aac aao=>
Calls P fR #[.slice a30 aac aao,.int .i64 (vn:Int)] w29 λe32 w31=>e32= .returned (.tuple #[])/\
R (.returned (.slice JI By Bz)) w31))))
def yFl {α:Type} {l m:Nat} {xs r ys:List α} (hl:l<=xs.length) (hy:ys.length=m) (hr:m<=r.length):
 ((xs++r).take (l+m)++xs.drop l++(xs++r).drop (l+m+(xs.drop l).length)).take l++ys++((xs++r).take (l+m)++xs.drop l++(xs++r).drop (l+m+(xs.drop l).length)).drop (l+ys.length)=(xs.take l++ys++xs.drop l)++r.drop m:=by
 have e1:(xs++r).drop (l+m+(xs.drop l).length)=r.drop m:=by
  rw[qc,show l+m+(xs.length-l)=xs.length+m by omega,KV];simp
 have e2:((xs++r).take (l+m)++xs.drop l++r.drop m).take l=xs.take l:=by
  rw[km,zq (by rw[oK,iQ];omega),List.take_take,GV (by omega),zq hl]
 have e3:((xs++r).take (l+m)++xs.drop l++r.drop m).drop (l+ys.length)=xs.drop l++r.drop m:=by
  have:((xs++r).take (l+m)).length=l+m:=by rw[oK,iQ];omega
  rw[km,hy,KV,this,Hx,Eu,HD (by omega),zi]
 rw[e1,e2,e3];simp
def z0s (A Z Y:List bv):lj (A++Z) A.length Y=A++Y++Z.drop Y.length:=by
 simp only[lj];rw[Ng,KV];simp
def MI {b o n c i:Nat} (h:c≠i):(if c=i then(ba ⟨b,o,bc⟩:Option cg)else(ba ⟨b,o,bc⟩:Option cg).map (·.add n))=ba ⟨b,o+n,bc⟩:=by
 rw[dx h,ym,uX]
def z0l (P:cf) (fO:Nat):Prop:=∀(w:cd) (va sb so la ca lb cb:Nat) (c c':Array bv) (T T':ce),va≠sb->w.heap[va]?=ba (.cells c T (0,0))->w.heap[sb]?=ba (.cells c' T' (0,0))->c'.size≠0->
 Cv.Ext P fO #[.slice (ba ⟨va,0,bc⟩) la ca,.slice (ba ⟨sb,so,bc⟩) lb cb] w (.bool au) w
def yWs {P : Program} {fO tS tB e sz oO : Nat} {z : Array Value} {fn : Func} (hf : P.funcs[fO]? = some fn) (BK : (fn.name == "runtime.NumGoroutine") = false) (hb : fn.body.isNone = true) (hn : Extern.findNext fn = none) (he : Extern.find fn = some (Extern.SlicesOverlaps.overlaps #[tS, tS] #[tB]))
 (hi:gD P tS=ba (e,sz,oO,z)):z0l P fO:=by
 obtain⟨i,zv,q1,q2,rfl,rfl,q5,rfl⟩:=jF hi;intro w va sb so la ca lb cb c c' T T' jf h1 h2 h3;unfold Cv.Ext;rw[run_callFunc_extern hf BK hb hn he,Lib.run_overlaps_apart w tS tB e q1 i.size (λw=>Cv.run_sizeOf q2 w) ⟨va,0,bc⟩ ⟨sb,so,bc⟩ la ca lb cb jf T T' c.size c'.size (by simp[World.shape?,h1]) (by simp[World.shape?,h2]) h3 (by simp[World.frozen?,h1]) (by simp[World.frozen?,h1])];rfl
def xAr {P:cf} {tS tI e sz oO fO fR:Nat} {z:Array bv} (hi:gD P tS=ba (e,sz,oO,z)) (hz:z.size=sz) (EF:0<oO) (oW:0<sz) (h2:KL P tS=ar) (HK:P.underlying tI=ba (.int .i64)) (hov:z0l P fO)
 {k:Ko} {w:cd} {L:List HP} {s v:Option cg} {sn sk vn vk i:Nat} {xs ys:List bv} (H:Hp k w (oA e sz s sn sk xs::oA e sz v vn vk ys::L)) (h1:∀u∈xs,u.oz=ar) (hy:∀u∈ys,u.oz=ar) (qt:i<=sn) (hv:0<vn)
 (hb:(sn+vn)*oO<=140737488355328):
 y5q P tS tI sz fO fR s sn sk i v vn vk w λen w'=>∃a kk,en= .returned (.slice a (sn+vn) kk)/\Hp k w' (oA e sz a (sn+vn) kk (xs.take (i*sz)++ys++xs.drop (i*sz))::oA e sz v vn vk ys::L):=by
 obtain⟨Cm,HR⟩:=H.len;obtain⟨C3,hvk⟩:=H.swap.len;have hnm:sn+vn<=140737488355328:=wu (Nat.le_mul_of_pos_right _ EF) hb;have w1:aa.wrap ((sn:Int)+(vn:Int))=((sn+vn:Nat):Int):=by rw[Cv.wrap_i64 (by omega) (by omega)];simp
 have w2:aa.wrap ((i:Int)+(vn:Int))=((i+vn:Nat):Int):=by rw[Cv.wrap_i64 (by omega) (by omega)];simp
 have w3:aa.wrap (((sn+vn:Nat):Int)-(i:Int))=((sn+vn-i:Nat):Int):=by rw[Cv.wrap_i64 (by omega) (by omega)];omega
 have hle:i*sz<=xs.length:=by rw[Cm];exact yh _ qt
 have HJ:(xs.take (i*sz)).length=i*sz:=by rw[oK];omega
 have Lk:(xs.drop (i*sz)).length=(sn-i)*sz:=by rw[qc,Cm,Nat.sub_mul]
 have sx:(i+vn)*sz=i*sz+vn*sz:=Aj _ _ _;have J8:(sn+vn)*sz=i*sz+vn*sz+(sn-i)*sz:=by rw[<- Aj,<- Aj];congr 1;omega
 have Ir:(xs.take (i*sz)++ys++xs.drop (i*sz)).length=(sn+vn)*sz:=by
  rw[iQ,iQ,HJ,C3,Lk,J8]
 unfold y5q;simp only[uq,w1,w2,w3,ml];refine⟨⟨oM,oM,HR⟩,Cv.du.mk (λc=>absurd c (by simp;omega)) λ_=>Cv.du.mk (λc=> ?_) λc=>Cv.du.mk (λhc=> ?_) λhc=> ?_⟩
 ·have c:i=sn:=by have:(i:Int)=(sn:Int):=by simpa using c
                  omega
  subst c;obtain⟨a',c',w',r1,r2⟩:=H.append (rt:=tS) hi h2 (x:= .slice v vn vk) (m:=vn) (ys:=ys) (.inl ⟨v,vk,rfl,H.swap.Ii⟩) hy hz EF hb;refine⟨a',_,c',w',r1,a',c',rfl,?_⟩;rw[oV (by omega),HD (by omega),pd];exact r2
 ·have c:i<sn:=by have:¬(i:Int)=(sn:Int):=by simpa using c
                  omega
  have hc:sk<sn+vn:=by have:=td hc;omega
  obtain⟨inf,zv,q1,q2,q3,q4,q5,q6⟩:=jF hi;subst q3 q4 q6;rcases H.oP with⟨_,e0,_⟩|⟨b,r,rfl,g1,g2,g3,H0⟩
  ·omega
  rcases H0.swap.oP with⟨_,e0,_⟩|⟨vb,rv,rfl,g4,g5,g6,H1⟩
  ·omega
  have hold:(bo inf.size i (.slice (ba ⟨b,0,bc⟩) i sk)).run P w.drew= .ok (xs.take (i*inf.size)).toArray w.drew:=by
   have hbk:=(H1.drew).swap.get;have:=fM (P:=P) (o:=0) (n:=i*inf.size) hbk (by rw[iQ];omega);unfold bo;rw[this,Eu,zq hle]
  have S6:=zQl (need:=sn+vn) (cap:=sk) oM;have aa9:=yh inf.bytes S6;have e2:2*(sn+vn)*inf.bytes=2*((sn+vn)*inf.bytes):=by rw[Nat.mul_assoc]
  have hkb:(sn+vn-i)*inf.bytes<=(sn+vn)*inf.bytes:=yh _ oM;have Rc:=Lib.run_append_grow_zeros (P:=P) w tS tI tS e inf zv .i64 .i64 q1 HK q2 q5 (ba ⟨b,0,bc⟩) i sk (xs.take (i*inf.size)) hold (sn+vn-i) oM oW oM oM oM (by rw[show i+(sn+vn-i)=sn+vn by omega];omega);rw[show i+(sn+vn-i)=sn+vn by omega]at Rc;have hG:sn+vn<=grownCap w (sn+vn) sk e:=grownCap_ge w (sn+vn) sk e;generalize grownCap w (sn+vn) sk e=G at Rc hG;have FB:(xs.take (i*inf.size)).toArray++be zv.cells (sn+vn-i)++be zv.cells (G-(sn+vn))=(xs.take (i*inf.size)++((be zv.cells (sn+vn-i)).toList++(be zv.cells (G-(sn+vn))).toList)).toArray:=by
   apply Array.ext';simp
  rw[FB]at Rc;have WT:((be zv.cells (sn+vn-i)).toList++(be zv.cells (G-(sn+vn))).toList).length=(sn+vn-i)*inf.size+(G-(sn+vn))*inf.size:=by
   rw[iQ,Jo,Jo,ci,ci,hz]
  generalize (be zv.cells (sn+vn-i)).toList++(be zv.cells (G-(sn+vn))).toList=Z at Rc WT;have hZ2:(sn+vn-i)*inf.size=vn*inf.size+(sn-i)*inf.size:=by rw[<- Aj];congr 1;omega
  have H2:=(H1.drew).new (.cells (xs.take (i*inf.size)++Z).toArray e);have hB:w.drew.heap.size=w.heap.size:=rfl;rw[hB]at H2;have Co:=UF (P:=P) (sT:=tS) (ty:=tI) hi (g:=w.heap.size) (o:=0+i*inf.size) (dLen:=sn+vn-i) (dCap:=G-i) (b:=vb) (so:=0) (sLen:=vn) (sCap:=vk) (n:=vn) H2.get H2.swap.get (GV oM) (by rw[iQ];omega) (by rw[iQ,HJ,WT];omega) (by
   rw[Eu,zq (by omega),oV (by omega)];exact hy)
  rw[Eu,zq (by omega),oV (show ys.length<=vn*inf.size by omega),oC]at Co;have es1:lj (xs.take (i*inf.size)++Z) (i*inf.size) ys=xs.take (i*inf.size)++ys++Z.drop ys.length:=by
   have:=z0s (xs.take (i*inf.size)) Z ys;rwa [HJ]at this
  rw[es1]at Co;have H3:=(H2.oc (.cells (xs.take (i*inf.size)++ys++Z.drop ys.length).toArray e)).drew;have Rf:(xs++r).drop (i*inf.size)=xs.drop (i*inf.size)++r:=GZ hle;have B5:=UF (P:=P) (sT:=tS) (ty:=tI) hi (g:=w.heap.size) (o:=0+(i+vn)*inf.size) (dLen:=sn+vn-(i+vn)) (dCap:=G-(i+vn)) (b:=b) (so:=0+i*inf.size) (sLen:=sn-i) (sCap:=sk-i) (n:=sn-i) H3.get H3.swap.drop.swap.get (GV oM) (by rw[iQ,Cm,oC,<- Aj];exact wu (yh _ oM) (Nat.le_add_right _ _)) (by
   rw[iQ,iQ,HJ,C3,qc,WT];omega) (by
   rw[oC,Rf,zq (by omega),oV (by omega)];exactλu hu=>h1 u (Jp hu))
  rw[oC,oC,Rf,zq (by omega),oV (show(xs.drop (i*inf.size)).length<=(sn-i)*inf.size by omega)]at B5;have es2:lj (xs.take (i*inf.size)++ys++Z.drop ys.length) ((i+vn)*inf.size) (xs.drop (i*inf.size))=xs.take (i*inf.size)++ys++xs.drop (i*inf.size)++(Z.drop ys.length).drop (xs.drop (i*inf.size)).length:=by
   have:=z0s (xs.take (i*inf.size)++ys) (Z.drop ys.length) (xs.drop (i*inf.size));rwa [show(xs.take (i*inf.size)++ys).length=(i+vn)*inf.size by rw[iQ,HJ,C3,sx]]at this
  rw[es2]at B5;refine⟨⟨oM,oM⟩,_,_,_,_,Rc,?_⟩;rw[MI (show G≠i by omega),oC];refine⟨⟨oM,oM,hG⟩,_,_,Co,?_⟩;rintro _ rfl;rw[MI (show G≠i+vn by omega),MI (show sk≠i by omega),oC,oC];refine⟨⟨oM,oM,hG⟩,⟨oM,oM,HR⟩,_,_,B5,_,_,rfl,?_⟩;have H4:=H3.oc (.cells (xs.take (i*inf.size)++ys++xs.drop (i*inf.size)++(Z.drop ys.length).drop (xs.drop (i*inf.size)).length).toArray e);have H5:=H4.AM (n:=sn+vn) (c:=G) (sz:=inf.size) Ir (by
   rw[iQ,Ir,qc,qc,WT,C3,Lk];have:G*inf.size=(sn+vn)*inf.size+(G-(sn+vn))*inf.size:=by rw[<- Aj];congr 1;omega
   omega) hG
  have H6:=H5.swap.AM (n:=vn) (c:=vk) (sz:=inf.size) g4 g5 g6;exact(H6.swap.perm (List.Perm.trans ((List.Perm.swap _ _ _).cons _) (List.Perm.swap _ _ _))).drop
 ·have c:i<sn:=by have:¬(i:Int)=(sn:Int):=by simpa using c
                  omega
  have hc:sn+vn<=sk:=by have:=Fa hc;omega
  rcases H.oP with⟨_,e0,_⟩|⟨b,r,rfl,g1,g2,g3,H0⟩
  ·omega
  rcases H0.swap.oP with⟨_,e0,_⟩|⟨vb,rv,rfl,g4,g5,g6,H1⟩
  ·omega
  have PX:vn*sz<=r.length:=by
   have e1:(sn+vn)*sz<=sk*sz:=yh _ hc;rw[iQ,g1]at g2;rw[Aj]at e1;omega
  have H2:=H1.swap;have jf:vb≠b:=Hp.apart H1;have Rf:(xs++r).drop (i*sz)=xs.drop (i*sz)++r:=GZ hle;have hex:=hov w vb b (0+(i+vn)*sz) vn vk (sn+vn-(i+vn)) (sk-(i+vn)) (ys++rv).toArray (xs++r).toArray e e jf H1.get H2.get (by
   rw[Ji,iQ,g1];have:=Nat.mul_pos (show 0<sn by omega) oW;omega)
  have H3:=H2.drew;have Co:=UF (P:=P) (sT:=tS) (ty:=tI) hi (g:=b) (o:=0+(i+vn)*sz) (dLen:=sn+vn-(i+vn)) (dCap:=sk-(i+vn)) (b:=b) (so:=0+i*sz) (sLen:=sn+vn-i) (sCap:=sk-i) (n:=sn-i) H3.get H3.get (by rw[show sn+vn-(i+vn)=sn-i by omega];exact Nat.min_eq_right oM) (by
   rw[iQ,g1,oC,<- Aj];exact wu (yh _ oM) (Nat.le_add_right _ _)) (by
   rw[iQ,g1,oC,<- Aj,show i+vn+(sn-i)=sn+vn by omega,Aj];omega) (by
   rw[oC,Rf,zq (by omega),oV (by omega)];exactλu hu=>h1 u (Jp hu))
  rw[oC,oC,Rf,zq (by omega),oV (show(xs.drop (i*sz)).length<=(sn-i)*sz by omega)]at Co;have H4:=H3.oc (.cells (lj (xs++r) ((i+vn)*sz) (xs.drop (i*sz))).toArray e);have xy:(lj (xs++r) ((i+vn)*sz) (xs.drop (i*sz))).length=(xs++r).length:=by
   simp only[lj,iQ,oK,Lk];rw[qc,iQ,g1,sx];have:sn*sz=i*sz+(sn-i)*sz:=by rw[<- Aj];congr 1;omega
   omega
  have B5:=UF (P:=P) (sT:=tS) (ty:=tI) hi (g:=b) (o:=0+i*sz) (dLen:=sn+vn-i) (dCap:=sk-i) (b:=vb) (so:=0) (sLen:=vn) (sCap:=vk) (n:=vn) H4.get H4.swap.get (GV oM) (by rw[iQ];omega) (by
   rw[xy,iQ,oC];omega) (by
   rw[Eu,zq (by omega),oV (by omega)];exact hy)
  rw[Eu,zq (by omega),oV (show ys.length<=vn*sz by omega),oC]at B5;have es:lj (lj (xs++r) ((i+vn)*sz) (xs.drop (i*sz))) (i*sz) ys=(xs.take (i*sz)++ys++xs.drop (i*sz))++r.drop (vn*sz):=by
   have:=yFl (l:=i*sz) (m:=vn*sz) (xs:=xs) (r:=r) (ys:=ys) hle C3 PX;simp only[lj,sx];exact this
  rw[es]at B5;refine⟨⟨oM,oM⟩,⟨oM,oM,oM⟩,au,w,?_,Cv.du.mk (λ_=> ?_) (λc=>absurd c Z8)⟩
  ·rw[MI (show sk≠i+vn by omega)];exact hex
  rintro _ rfl;rw[MI (show sk≠i+vn by omega),MI (show sk≠i by omega),oC,oC];refine⟨⟨oM,oM,oM⟩,⟨oM,oM,oM⟩,_,_,Co,⟨oM,oM,oM⟩,_,_,B5,_,_,rfl,?_⟩;have H5:=H4.oc (.cells (xs.take (i*sz)++ys++xs.drop (i*sz)++r.drop (vn*sz)).toArray e);have H6:=H5.AM (n:=sn+vn) (c:=sk) (sz:=sz) Ir (by
   rw[iQ,Ir,qc,<- g2,iQ,g1,Aj];omega) hc
  exact(H6.swap.AM (n:=vn) (c:=vk) (sz:=sz) g4 g5 g6).swap
structure M7 where
 fh:List (List D)
 el:List D
 i:Nat
def VO (e sz oO:Nat):gx where
 ι:=M7
 pat:=λi=>[.own 0,.d (.v (.int .i64 i.i)),.own 1]
 pre:=λi=>[.own e sz i.fh,.own e sz [i.el]]
 du:=λi=>i.i<=i.fh.length/\(i.fh.length+1)*oO<=140737488355328
 alts:=λi=>[{o:=Unit,res:=λ_=> .own 2,post:=λ_=>[.gone,.gone,.own e sz (i.fh.take i.i++i.el::i.fh.drop i.i)],rel:=λ_=>True}]
def ID {P:cf} (hm:P.follows .mixedOrders=ar) {tS tI e sz oO fI fO fR:Nat} {z:Array bv} {fn:Func} {c:Code} (hf:P.funcs[fI]? =ba fn) (hb:fn.body=ba c) (B6:gF P fI=ar) (pg:yi fn.ntmps c=ar) (Li:okF [] c=ar) (LC:Nat.ble 3 fn.ntmps=ar)
 (hi:gD P tS=ba (e,sz,oO,z)) (hz:z.size=sz) (EF:0<oO) (oW:0<sz) (h2:KL P tS=ar) (HK:P.underlying tI=ba (.int .i64)) (hov:z0l P fO)
 (heq:∀(s:Option cg) (sn sk:Nat) (i:Int) (v:Option cg) (vn vk:Nat) (w:cd) (R:Ending->cd->Prop),y5q P tS tI sz fO fR s sn sk i v vn vk w R=EI P [] c (TB P fn R) (gG [.slice s sn sk,.int .i64 i,.slice v vn vk]) w):
 (VO e sz oO).ok P fI:=by
 intro i hc k L E w ys R hv;obtain⟨c1,c2⟩:i.i<=i.fh.length/\(i.fh.length+1)*oO<=140737488355328:=hc;simp only[VO,im,VR,DR]at hv;obtain⟨y0,_,rfl,⟨l0,e0,_⟩,y1,_,rfl,⟨rfl,_⟩,y2,_,rfl,⟨l2,e2,_⟩,rfl⟩:=hv;obtain⟨s,sk,xs,aaa,g1,we,hu,H⟩:=R.tz (n:=0) (t:=e) (sz:=sz) (fh:=i.fh) rfl;rw[e0]at g1;cases g1;have tf:∃v vk zs,y2= .slice v 1 vk/\iI E.F i.el zs/\i.el.length=sz/\Hp k w (oA e sz s i.fh.length sk xs::oA e sz v 1 vk zs::fz E.F::L):=by
  obtain⟨hk,hs,hh⟩:=H;cases hh with
  |cons ha jb hd hr=>
   simp only[VO,fD,vY,iT,CS,tu,zi]at hr;cases hr with
   |cons oG J9 AG wx=>
    rcases oG with⟨q,_⟩|⟨⟨K9,ug⟩,q1,q2⟩
    ·cases q
    ·simp only at q1;rw[e2]at q1;cases q1;simp only[gg]at q2;obtain⟨a,kk,zs,rfl,q3,q4,q5⟩:=q2;simp only[A2,List.flatten_nil,pd]at q3;exact⟨a,kk,zs,rfl,q3,q4 _ jg,hk,_,.cons ha jb hd (.cons q5 J9 AG wx)⟩
 obtain⟨v,vk,zs,rfl,NC,qf,H2⟩:=tf;have hv:=xAr (fR:=fR) (fO:=fO) hi hz EF oW h2 HK hov (i:=i.i) H2 we.one NC.one c1 oM c2;have xq:=zNa (args:=[.slice s i.fh.length sk,.int .i64 i.i,.slice v 1 vk]) hm hf hb [] pg Li LC (heq s i.fh.length sk i.i v 1 vk w _) hv;refine nO B6 (xq.mono ?_);rintro en w' ⟨a,kk,rfl,H3⟩;have H4:Hp k w' (oA e sz a (i.fh.take i.i++i.el::i.fh.drop i.i).length kk (xs.take (i.i*sz)++zs++xs.drop (i.i*sz))::(([]:List (Nat×fw)).map (iu E)++fz E.F::L)):=by
  have:(i.fh.take i.i++i.el::i.fh.drop i.i).length=i.fh.length+1:=by
   rw[iQ,iY,oK,qc];omega
  rw[this];exact H3.swap.drop
 obtain⟨E',r1,r2,r3⟩:=aM (nx:=2) R.nx (by
  rw[Nn,A2,<- sG i.i hu,<- sE i.i hu,<- km];exact((we.take _).append NC).append (we.drop _)) (λx hx=>by
   rcases qq.1 hx with hx|hx
   ·exact hu x (Po hx)
   ·rcases ku.1 hx with rfl|hx
    ·exact qf
    ·exact hu x (Jp hx)) H4
 have hl:(i.fh.take i.i++i.el::i.fh.drop i.i).length=i.fh.length+1:=by
  rw[iQ,iY,oK,qc];omega
 rw[hl]at r3;refine⟨_,rfl,_,xj.2 rfl,(),trivial,E',r1,r3,⟨r2.nx,?_⟩⟩;have q1:=((@gV k w' True _).2 ⟨trivial,r2.hp⟩).imp (B:=iu E' (1,.gone)) λx hx=> .inl ⟨rfl,hx.2⟩
 have q2:=((@gV k w' True _).2 ⟨trivial,q1⟩).imp (B:=iu E' (0,.gone)) λx hx=> .inl ⟨rfl,hx.2⟩
 exact q2
def GH:gx:=gh D4 (λi=>[zB i.side,zB i.x,zB i.y]) (λ_=>[]) (λ_=>True) (λi=>y4 (jj i.side i.x i.y)) (λ_=>[])
@[reducible] def y7k (s:Slot):V:= .agg [y4 s.used,zB s.n,zB s.id,zB s.dq,y4 s.top,zB s.queue,zB s.ahead,zB s.back]
def Ma:gx:=gh Slot (λs=>[y7k s]) (λ_=>[]) (λ_=>True) (λs=>y4 (!s.used)) (λ_=>[])
def jM (l:List Slot):Int:=IQ (l.findIdx? λs=> !s.used)
def BU:gx:=gh (List Slot) (λ_=>[.own 0,.fn 255 [] []]) (λl=>[.own 314 8 (l.map zT)]) (λl=>l.length<=1000000) (λl=>zB (jM l)) (λl=>[.own 314 8 (l.map zT)])
def yPx (l:List Slot):List ib:=[{ι:=Nat,dv:=λj=>[(8,zB j)],rows:=λ_=>[]}]
def nJ:cI:=⟨-1,-1,0,0⟩
def dw.tn (a:dw):dw:={a with dy:=a.dy++[nJ]}
def Mv:gx:=gh dw (λ_=>[.nm 0 0]) (λa=>[wL a]) (λa=>a.dy.length<=1000000) (λa=>zB a.dy.length) (λa=>[wL a.tn])
structure Nd where
 a:dw
 n:Int
 t:Bool
def dw.iB (a:dw) (n:Int):Bool:=decide (0<=n) && (decide (n<a.dv.length) && (a.dv.getD n.toNat iK).used)
def dw.ng (a:dw) (n:Int) (t:Bool):dw:=if a.iB n=ar then{a with dv:=a.dv.modify n.toNat λs=>{s with top:=t}}else a
def Kl:gx:=gh Nd (λi=>[.nm 0 0,zB i.n,y4 i.t]) (λi=>[wL i.a]) (λi=>i.a.dv.length<=1000000) (λi=>zB (if i.a.iB i.n=ar then 0 else 26)) (λi=>[wL (i.a.ng i.n i.t)])
structure De where
 a:dw
 n:Int
 id:Int
 dq:Int
 top:Bool
def dw.put (a:dw) (n id dq:Int) (top:Bool):dw:=
 let q:=a.dy.getD n.toNat nJ
 let k:=jM a.dv
 let sl:=a.dv.set k.toNat ⟨ar,k,id,dq,top,n,q.last,-1⟩
 ⟨if q.last= -1 then sl else sl.modify q.last.toNat λs=>{s with back:=k},a.dy.set n.toNat ⟨if q.last= -1 then k else q.first,k,aa.wrap (q.total+dq),aa.wrap (q.count+1)⟩,aa.wrap (a.free-1)⟩
def dw.push (a:dw) (n id dq:Int) (top:Bool):dw×Int×Int:=
 if n<0\/a.dy.length<=n then(a,0,26)else if dq<1\/1000000<dq then(a,0,24)else if a.free=0 then(a,0,13)else(a.put n id dq top,jM a.dv,0)
def dw.fit (a:dw):Prop:=a.dv.length<=1000000/\(a.free≠0->∃s∈a.dv,s.used=au)/\∀q∈a.dy,q.last= -1\/(0<=q.last/\q.last<a.dv.length)
def Gv:gx:=gh De (λi=>[.nm 0 0,zB i.n,zB i.id,zB i.dq,y4 i.top]) (λi=>[wL i.a]) (λi=>i.a.fit) (λi=> .jm [zB (i.a.push i.n i.id i.dq i.top).2.1,zB (i.a.push i.n i.id i.dq i.top).2.2]) (λi=>[wL (i.a.push i.n i.id i.dq i.top).1])
@[reducible] def IP (b:dt):List fw:=[zR b 0,zR b 1,zR b 2,zR b 3,zR b 4,zR b 5]
structure oU where
 b:dt
 dp:Int
def yA (s:Int) (l:List xV) (dp:Int):Nat:=(l.takeWhile λr=>jj s r.dp dp).length
def jP (s:Int) (l:List xV) (dp:Int):Bool:=match l[yA s l dp]? with
 |some r=>decide (r.dp=dp)
 |none=>au
def dt.eg (b:dt) (s:Int):List xV:=if s=1 then b.fv else b.ff
def yLg (s:Int):gx:=gh oU (λi=>[.nm 0 0,zB s,zB i.dp]) (λi=>IP i.b) (λi=>i.b.small) (λi=> .jm [zB (yA s (i.b.eg s) i.dp),y4 (jP s (i.b.eg s) i.dp)]) (λi=>IP i.b)
def Gc:gx:=yLg 1
def Gb:gx:=yLg 2
def yWx:List ib:=[{ι:=Nat,dv:=λj=>[(9,zB j)],rows:=λ_=>[]}]
def lp (l:List (Int×Place)) (k:Int):Option Place:=(l.find? λx=>decide (x.1=k)).map (·.2)
def lG (k:Int) (v:Place):List (Int×Place)->List (Int×Place)
 |[]=>[(k,v)]
 |(a,b)::l=>if k=a then(a,v)::l else(a,b)::lG k v l
structure Cq where
 b:dt
 id:Int
def dt.nn (b:dt) (s:Int):Bool:=if s=1 then b.gp else b.gj
def dt.jd (b:dt) (s:Int):Int:=if s=1 then b.iN else b.iM
def dt.iZ (b:dt) (s:Int):dw:=if b.nn s=ar then(match lp b.at_ (b.jd s)with
 |some o=>if o.side=s then b.a.ng o.slot au else b.a
 |none=>b.a)else b.a
def dt.jl (b:dt) (id s:Int):dt:=if s=1 then{b with a:=b.iZ s,iN:=id,gp:=ar}else{b with a:=b.iZ s,iM:=id,gj:=ar}
def yMr (s:Int):gx:=gh Cq (λi=>[.nm 0 0,zB i.id,zB s]) (λi=>IP i.b) (λi=>i.b.small) (λ_=>EX) (λi=>IP (i.b.jl i.id s))
def F8:gx:=yMr 1
def F7:gx:=yMr 2
def dt.iW (b:dt):Int×List Int×dw:=if b.spare.length=0 then(b.a.dy.length,b.spare,b.a.tn)else(b.spare.getD (b.spare.length-1) 0,b.spare.take (b.spare.length-1),b.a)
def dt.ins (b:dt) (s dp:Int):List xV:=(b.eg s).take (yA s (b.eg s) dp)++⟨dp,b.iW.1⟩::(b.eg s).drop (yA s (b.eg s) dp)
def dt.gr (b:dt) (s dp:Int):dt×Int:=
 if jP s (b.eg s) dp=ar then(b,((b.eg s).getD (yA s (b.eg s) dp) ⟨0,0⟩).queue)
 else(if s=1 then{b with a:=b.iW.2.2,fv:=b.ins s dp,spare:=b.iW.2.1}else{b with a:=b.iW.2.2,ff:=b.ins s dp,spare:=b.iW.2.1},b.iW.1)
def ySb (b:dt):fw:= .cells [.nm 1 0,.own 6,.own 3,.mp 4,zB b.iN,zB b.iM,.own 7,y4 b.gp,y4 b.gj] 273
def yWa (b:dt):fw:= .cells [.nm 1 0,.own 2,.own 6,.mp 4,zB b.iN,zB b.iM,.own 7,y4 b.gp,y4 b.gj] 273
@[reducible] def y3n (b:dt):List fw:=[ySb b,zR b 1,.gone,zR b 3,zR b 4,.gone,zR b 2,zR b 5]
@[reducible] def y3o (b:dt):List fw:=[yWa b,zR b 1,zR b 2,.gone,zR b 4,.gone,zR b 3,zR b 5]
@[reducible] def dt.fit (b:dt):Prop:=b.a.fit/\b.a.dy.length<=100000/\b.fv.length<=100000/\b.ff.length<=100000/\b.spare.length<=100000
def Dv:gx:=gh oU (λi=>[.nm 0 0,zB 1,zB i.dp]) (λi=>IP i.b) (λi=>i.b.fit) (λi=>zB (i.b.gr 1 i.dp).2) (λi=>y3n (i.b.gr 1 i.dp).1)
def Du:gx:=gh oU (λi=>[.nm 0 0,zB 2,zB i.dp]) (λi=>IP i.b) (λi=>i.b.fit) (λi=>zB (i.b.gr 2 i.dp).2) (λi=>y3o (i.b.gr 2 i.dp).1)
def SQ:gx:=VO 276 2 16
def z4j (i:D4):Prop:=
 du (i.side==1) (ez (jj i.side i.x i.y=decide (i.x>i.y)/\True)) (ez (jj i.side i.x i.y=decide (i.x<i.y)/\True))
def yOm (s:Slot):Prop:=
 ez ((!s.used)=!s.used/\True)
def z6q (l:List Slot):Prop:=
 ∃(a:Nat),(↑a:Int)=0/\∃(b:Nat->Prop),∃(c:Nat->Nat),b a/\∀(d:Nat),b d->du (decide ((↑d:Int)<(↑(ab zT l).length:Int))) ((0<=(↑d:Int)/\(↑d:Int)<(↑(ab zT l).length:Int))/\∃(e:Bool),∃(f:Int),∃(g:Int),∃(h:Int),∃(j:Bool),∃(k:Int),∃(m:Int),∃(n:Int),zF (ab zT l) (↑d:Int).toNat 0 8=ba [D.v (.bool e),dI f,dI g,dI h,D.v (.bool j),dI k,dI m,dI n]/\∃(p:Slot),p.used=e/\p.n=f/\p.id=g/\p.dq=h/\p.top=j/\p.queue=k/\p.ahead=m/\p.back=n/\True/\fp (du (!p.used) (ez (jM l=(↑d:Int)/\dm (ab zT l)/\True)) (∃(r:Nat),Q0 r d b c (dm (aj 314 8 (ab zT l)))))) (ez (jM l=(-1)/\dm (ab zT l)/\True))
def yOn (a:dw):Prop:=
 ((ab zQ a.dy).length+1)*(32:Nat)<=(140737488355328:Nat)/\ez ((↑a.dy.length:Int)=aa.wrap ((↑(ab zQ a.dy++[[dI (-1),dI (-1),dI 0,dI 0]]).length:Int)-1)/\dm a.free/\dm (ab zT a.dv)/\ab zQ (a.dy++[nJ])=ab zQ a.dy++[[dI (-1),dI (-1),dI 0,dI 0]]/\True)
def U8 (a:Nd):Prop:=ez ((if a.a.iB a.n=ar then(0:Int)else(26:Int))=26/\(a.a.ng a.n a.t).free=a.a.free/\ab zT (a.a.ng a.n a.t).dv=ab zT a.a.dv/\ab zQ (a.a.ng a.n a.t).dy=ab zQ a.a.dy/\True)
def yZh (i:Nd):Prop:=
 du (decide (i.n<0)) (U8 i) (du (decide (i.n>=(↑(ab zT i.a.dv).length:Int))) (U8 i) ((0<=i.n/\i.n<(↑(ab zT i.a.dv).length:Int))/\∃(a:Bool),zF (ab zT i.a.dv) i.n.toNat 0 1=ba [D.v (.bool a)]/\du (!a) (U8 i) ((0<=i.n/\i.n<(↑(ab zT i.a.dv).length:Int))/\i.n.toNat<(ab zT i.a.dv).length/\ez ((if i.a.iB i.n=ar then(0:Int)else(26:Int))=0/\(i.a.ng i.n i.t).free=i.a.free/\ab zT (i.a.ng i.n i.t).dv=zX (ab zT i.a.dv) i.n.toNat 4 [D.v (.bool i.t)]/\ab zQ (i.a.ng i.n i.t).dy=ab zQ i.a.dy/\True))))
def yL (a:De):=(a.a.push a.n a.id a.dq a.top)
def lA (a:De):Prop:=(yL a).fst.free=a.a.free/\ab zT (yL a).fst.dv=ab zT a.a.dv/\ab zQ (yL a).fst.dy=ab zQ a.a.dy/\True
def Z7 (a:De):Prop:=ez ((yL a).snd.fst=0/\(yL a).snd.snd=26/\lA a)
def zEt (a:De):Prop:=ez ((yL a).snd.fst=0/\(yL a).snd.snd=24/\lA a)
def eX (a:De) (b:List Slot):=(zX (zX (ab zQ a.a.dy) a.n.toNat 0 [dI (jM b)]) a.n.toNat 1 [dI (jM b)])
def lC (a:De) (b:List Slot) (c:Int):=(zX (eX a b) a.n.toNat 2 [dI (aa.wrap (c+a.dq))])
def eC (a:De) (b:List Slot):=(zX (ab zQ a.a.dy) a.n.toNat 1 [dI (jM b)])
def eL (a:De) (b:List Slot) (c:Int):=(zX (eC a b) a.n.toNat 2 [dI (aa.wrap (c+a.dq))])
def yJr (i:De):Prop:=
 du (decide (i.n>=0)) (du (!decide (i.n<(↑(ab zQ i.a.dy).length:Int))) (Z7 i) (du (decide (i.dq<1)) (zEt i) (du (decide (i.dq>1000000)) (zEt i) (du (i.a.free==0) (ez ((yL i).snd.fst=0/\(yL i).snd.snd=13/\lA i)) (∃(a:List Slot),ab zT a=ab zT i.a.dv/\a.length<=1000000/\fp ((0<=i.n/\i.n<(↑(ab zQ i.a.dy).length:Int))/\∃(c:Int),zF (ab zQ i.a.dy) i.n.toNat 1 1=ba [dI c]/\(0<=jM a/\jM a<(↑(ab zT a).length:Int))/\(jM a).toNat<(ab zT a).length/\∃(d:Int),zF (ab zQ i.a.dy) i.n.toNat 1 1=ba [dI d]/\du (d==(-1)) (i.n.toNat<(ab zQ i.a.dy).length/\i.n.toNat<(zX (ab zQ i.a.dy) i.n.toNat 0 [dI (jM a)]).length/\∃(e:Int),zF (eX i a) i.n.toNat 2 1=ba [dI e]/\i.n.toNat<(eX i a).length/\∃(f:Int),zF (lC i a e) i.n.toNat 3 1=ba [dI f]/\i.n.toNat<(lC i a e).length/\ez ((yL i).snd.fst=jM a/\(yL i).snd.snd=0/\(yL i).fst.free=aa.wrap (i.a.free-1)/\ab zT (yL i).fst.dv=zX (ab zT a) (jM a).toNat 0 [D.v (.bool ar),dI (jM a),dI i.id,dI i.dq,D.v (.bool i.top),dI i.n,dI c,dI (-1)]/\ab zQ (yL i).fst.dy=zX (lC i a e) i.n.toNat 3 [dI (aa.wrap (f+1))]/\True)) (∃(e:Int),zF (ab zQ i.a.dy) i.n.toNat 1 1=ba [dI e]/\(0<=e/\e<(↑(zX (ab zT a) (jM a).toNat 0 [D.v (.bool ar),dI (jM a),dI i.id,dI i.dq,D.v (.bool i.top),dI i.n,dI c,dI (-1)]).length:Int))/\e.toNat<(zX (ab zT a) (jM a).toNat 0 [D.v (.bool ar),dI (jM a),dI i.id,dI i.dq,D.v (.bool i.top),dI i.n,dI c,dI (-1)]).length/\i.n.toNat<(ab zQ i.a.dy).length/\∃(f:Int),zF (eC i a) i.n.toNat 2 1=ba [dI f]/\i.n.toNat<(eC i a).length/\∃(g:Int),zF (eL i a f) i.n.toNat 3 1=ba [dI g]/\i.n.toNat<(eL i a f).length/\ez ((yL i).snd.fst=jM a/\(yL i).snd.snd=0/\(yL i).fst.free=aa.wrap (i.a.free-1)/\ab zT (yL i).fst.dv=zX (zX (ab zT a) (jM a).toNat 0 [D.v (.bool ar),dI (jM a),dI i.id,dI i.dq,D.v (.bool i.top),dI i.n,dI c,dI (-1)]) e.toNat 7 [dI (jM a)]/\ab zQ (yL i).fst.dy=zX (eL i a f) i.n.toNat 3 [dI (aa.wrap (g+1))]/\True)))))))) (Z7 i)
def qA (a:oU):=(↑(yA 1 (a.b.eg 1) a.dp):Int)
def uY (a:oU):=(↑(ab zC a.b.fv).length:Int)
@[reducible] def QF (a:dt)(R:Prop):Prop:=ab zC a.fv=ab zC a.fv/\ab zC a.ff=ab zC a.ff/\jv a.at_=jv a.at_/\iE a.spare=iE a.spare/\R
@[reducible] def QQ (a:dt)(R:Prop):Prop:=a.iN=a.iN/\a.iM=a.iM/\a.gp=a.gp/\a.gj=a.gj/\R
def bF (a:oU):Prop:=QQ a.b (af dw 3 zG a.b.a=zR a.b 1/\QF a.b (True))
def zFr (a:Nat) (b:oU):Prop:=(0<=(↑a:Int)/\(↑a:Int)<(uY b))/\∃(c:Int),zF (ab zC b.b.fv) (↑a:Int).toNat 0 1=ba [dI c]/\ez ((qA b)=(↑a:Int)/\jP 1 (b.b.eg 1) b.dp=(c==b.dp)/\bF b)
def zEw (a:oU) (b:Nat):Prop:=ez ((qA a)=(↑b:Int)/\jP 1 (a.b.eg 1) a.dp=au/\bF a)
def tQ (a:Nat) (b:Nat->Prop) (c:Nat->Nat) (d:oU):Prop:=∃(e:Nat),Q0 e a b c (dm (zR d.b 0)/\dm (zR d.b 1)/\dm (zR d.b 2)/\dm (zR d.b 3)/\dm (zR d.b 4)/\dm (zR d.b 5))
def tN (a:Nat) (b:oU):=(decide ((↑a:Int)<(uY b)))
def yIz (i:oU):Prop:=
 ∃(a:Nat),(↑a:Int)=0/\∃(b:Nat->Prop),∃(c:Nat->Nat),b a/\∀(d:Nat),b d->du (tN d i) ((0<=(↑d:Int)/\(↑d:Int)<(uY i))/\∃(e:Int),zF (ab zC i.b.fv) (↑d:Int).toNat 0 1=ba [dI e]/\∃(f:D4),f.side=1/\f.x=e/\f.y=i.dp/\True/\fp (du (jj f.side f.x f.y) (tQ d b c i) (du (tN d i) (zFr d i) (zEw i d)))) (du (tN d i) (zFr d i) (zEw i d))
def x9 (a:oU):=(↑(yA 2 (a.b.eg 2) a.dp):Int)
def gC (a:oU):=(↑(ab zC a.b.ff).length:Int)
def zEj (a:Nat) (b:oU):Prop:=(0<=(↑a:Int)/\(↑a:Int)<(gC b))/\∃(c:Int),zF (ab zC b.b.ff) (↑a:Int).toNat 0 1=ba [dI c]/\ez ((x9 b)=(↑a:Int)/\jP 2 (b.b.eg 2) b.dp=(c==b.dp)/\bF b)
def zEz (a:oU) (b:Nat):Prop:=ez ((x9 a)=(↑b:Int)/\jP 2 (a.b.eg 2) a.dp=au/\bF a)
def eA (a:Nat) (b:oU):=(decide ((↑a:Int)<(gC b)))
def yKq (i:oU):Prop:=
 ∃(a:Nat),(↑a:Int)=0/\∃(b:Nat->Prop),∃(c:Nat->Nat),b a/\∀(d:Nat),b d->du (eA d i) ((0<=(↑d:Int)/\(↑d:Int)<(gC i))/\∃(e:Int),zF (ab zC i.b.ff) (↑d:Int).toNat 0 1=ba [dI e]/\∃(f:D4),f.side=2/\f.x=e/\f.y=i.dp/\True/\fp (du (jj f.side f.x f.y) (tQ d b c i) (du (eA d i) (zEj d i) (zEz i d)))) (du (eA d i) (zEj d i) (zEz i d))
def bP (a:Cq):Prop:=QF a.b (True)
def sX (a:Cq):Prop:=ez (dm a.id/\dm a.b.iM/\ar=ar/\dm a.b.gj/\af dw 3 zG (a.b.iZ 1)=zR a.b 1/\bP a)
def Z6 (a:Cq) (b:Int) (c:Int) (d:Int) (e:Bool):Prop:=kH (ap aa a.b.iN) (jv a.b.at_)=ba [dI b,dI c,dI d]/\e=ar\/kH (ap aa a.b.iN) (jv a.b.at_)=bc/\[dI b,dI c,dI d]=[dI 0,dI 0,dI 0]/\e=au
def zEo (a:Cq):Prop:=∀(b:bv×List D),b∈jv a.b.at_->kr (ap aa a.b.iN) b.fst=ar
def yQz (i:Cq):Prop:=
 du i.b.gp ((zEo i)/\∃(a:Bool),∃(b:Int),∃(c:Int),∃(d:Int),(Z6 i b c d a)/\((zEo i)/\∃(e:Bool),∃(f:Int),∃(g:Int),∃(h:Int),(Z6 i f g h e)/\(f=b/\g=c/\h=d/\True)/\e=a/\True)/\dm i.b.iN/\True/\du a (du (b==1) (∃(e:Nd),e.n=d/\e.t=au/\af dw 3 zG e.a=zR i.b 1/\e.a.dv.length<=1000000/\fp (ez (dm i.id/\dm i.b.iM/\ar=ar/\dm i.b.gj/\af dw 3 zG (i.b.iZ 1)=af dw 3 zG (e.a.ng e.n e.t)/\bP i))) (sX i)) (sX i)) (sX i)
def eM (a:Cq):Prop:=ez (dm a.b.iN/\dm a.id/\dm a.b.gp/\ar=ar/\af dw 3 zG (a.b.iZ 2)=zR a.b 1/\bP a)
def zEe (a:Cq) (b:Int) (c:Int) (d:Int) (e:Bool):Prop:=kH (ap aa a.b.iM) (jv a.b.at_)=ba [dI b,dI c,dI d]/\e=ar\/kH (ap aa a.b.iM) (jv a.b.at_)=bc/\[dI b,dI c,dI d]=[dI 0,dI 0,dI 0]/\e=au
def Z5 (a:Cq):Prop:=∀(b:bv×List D),b∈jv a.b.at_->kr (ap aa a.b.iM) b.fst=ar
def yMm (i:Cq):Prop:=
 du i.b.gj ((Z5 i)/\∃(a:Bool),∃(b:Int),∃(c:Int),∃(d:Int),(zEe i b c d a)/\((Z5 i)/\∃(e:Bool),∃(f:Int),∃(g:Int),∃(h:Int),(zEe i f g h e)/\(f=b/\g=c/\h=d/\True)/\e=a/\True)/\dm i.b.iM/\True/\du a (du (b==2) (∃(e:Nd),e.n=d/\e.t=au/\af dw 3 zG e.a=zR i.b 1/\e.a.dv.length<=1000000/\fp (ez (dm i.b.iN/\dm i.id/\dm i.b.gp/\ar=ar/\af dw 3 zG (i.b.iZ 2)=af dw 3 zG (e.a.ng e.n e.t)/\bP i))) (eM i)) (eM i)) (eM i)
@[reducible] def QL (a:dw)(b:dt)(R:Prop):Prop:=(a.dv.length<=1000000/\a.dy.length<=1000000)/\b.fv.length<=1000000/\b.ff.length<=1000000/\R
def qN (a:oU):Prop:=QL a.b.a a.b (a.b.spare.length<=1000000)
def dS (a:oU):Prop:=0<=(qA a)/\(qA a)<(uY a)
def hP (a:oU):=((↑(iE a.b.spare).length:Int)-1)
def pW (a:oU):Prop:=0<=aa.wrap (hP a)/\aa.wrap (hP a)<=(↑(iE a.b.spare).length:Int)
def pX (a:oU):Prop:=0<=aa.wrap (hP a)/\aa.wrap (hP a)<(↑(iE a.b.spare).length:Int)
def dN (a:M7):Prop:=a.i<=a.fh.length/\(a.fh.length+1)*(16:Nat)<=(140737488355328:Nat)
def dF (a:oU):=(aa.wrap (hP a))
def zP (a:oU):=(a.b.gr 1 a.dp)
@[reducible] def Qu (a b:dt)(R:Prop):Prop:=a.iN=b.iN/\a.iM=b.iM/\a.gp=b.gp/\a.gj=b.gj/\af dw 3 zG a.a=zR b 1/\ab zC a.fv=ab zC b.fv/\ab zC a.ff=ab zC b.ff/\jv a.at_=jv b.at_/\iE a.spare=iE b.spare/\R
@[reducible] def Qw (a:oU)(b:dt)(R:Prop):Prop:=(zP a).fst.iN=b.iN/\(zP a).fst.iM=b.iM/\(zP a).fst.gp=b.gp/\(zP a).fst.gj=b.gj/\af dw 3 zG (zP a).fst.a=af dw 3 zG b.a/\ab zC (zP a).fst.ff=ab zC b.ff/\jv (zP a).fst.at_=jv b.at_/\R
def yCv (i:oU):Prop:=
 ∃(a:oU),dm ((1:Int))/\a.dp=i.dp/\Qu a.b i.b ((qN a)/\fp (du (jP 1 (a.b.eg 1) a.dp) ((dS a)/\∃(c:Int),zF (ab zC a.b.fv) (qA a).toNat 1 1=ba [dI c]/\ez ((zP i).snd=c/\Qw i a.b (ab zC (zP i).fst.fv=ab zC a.b.fv/\iE (zP i).fst.spare=iE a.b.spare/\True))) (du (decide ((↑(iE a.b.spare).length:Int)>0)) ((pX a)/\∃(c:Int),zF (iE a.b.spare) (dF a).toNat 0 1=ba [dI c]/\(pW a)/\True/\∃(d:M7),(↑d.i:Int)=(qA a)/\d.fh=ab zC a.b.fv/\[d.el]=[[dI i.dp,dI c]]/\(dN d)/\fp (ez ((zP i).snd=c/\Qw i a.b (ab zC (zP i).fst.fv=ac d.i d.fh++d.el::ae d.i d.fh/\iE (zP i).fst.spare=ac (dF a).toNat (iE a.b.spare)/\True)))) (∃(c:dw),af dw 3 zG c=af dw 3 zG a.b.a/\c.dy.length<=1000000/\fp (True/\∃(e:M7),(↑e.i:Int)=(qA a)/\e.fh=ab zC a.b.fv/\[e.el]=[[dI i.dp,dI (↑c.dy.length:Int)]]/\(dN e)/\fp (ez ((zP i).snd=(↑c.dy.length:Int)/\(zP i).fst.iN=a.b.iN/\(zP i).fst.iM=a.b.iM/\(zP i).fst.gp=a.b.gp/\(zP i).fst.gj=a.b.gj/\af dw 3 zG (zP i).fst.a=af dw 3 zG c.tn/\ab zC (zP i).fst.ff=ab zC a.b.ff/\jv (zP i).fst.at_=jv a.b.at_/\ab zC (zP i).fst.fv=ac e.i e.fh++e.el::ae e.i e.fh/\iE (zP i).fst.spare=iE a.b.spare/\True)))))))
def dR (a:oU):Prop:=0<=(x9 a)/\(x9 a)<(gC a)
def zO (a:oU):=(a.b.gr 2 a.dp)
@[reducible] def Qx (a:oU)(b:dt)(R:Prop):Prop:=(zO a).fst.iN=b.iN/\(zO a).fst.iM=b.iM/\(zO a).fst.gp=b.gp/\(zO a).fst.gj=b.gj/\af dw 3 zG (zO a).fst.a=af dw 3 zG b.a/\ab zC (zO a).fst.fv=ab zC b.fv/\jv (zO a).fst.at_=jv b.at_/\R
def yEb (i:oU):Prop:=
 ∃(a:oU),dm ((2:Int))/\a.dp=i.dp/\Qu a.b i.b ((qN a)/\fp (du (jP 2 (a.b.eg 2) a.dp) ((dR a)/\∃(c:Int),zF (ab zC a.b.ff) (x9 a).toNat 1 1=ba [dI c]/\ez ((zO i).snd=c/\Qx i a.b (ab zC (zO i).fst.ff=ab zC a.b.ff/\iE (zO i).fst.spare=iE a.b.spare/\True))) (du (decide ((↑(iE a.b.spare).length:Int)>0)) ((pX a)/\∃(c:Int),zF (iE a.b.spare) (dF a).toNat 0 1=ba [dI c]/\(pW a)/\True/\∃(d:M7),(↑d.i:Int)=(x9 a)/\d.fh=ab zC a.b.ff/\[d.el]=[[dI i.dp,dI c]]/\(dN d)/\fp (ez ((zO i).snd=c/\Qx i a.b (ab zC (zO i).fst.ff=ac d.i d.fh++d.el::ae d.i d.fh/\iE (zO i).fst.spare=ac (dF a).toNat (iE a.b.spare)/\True)))) (∃(c:dw),af dw 3 zG c=af dw 3 zG a.b.a/\c.dy.length<=1000000/\fp (True/\∃(e:M7),(↑e.i:Int)=(x9 a)/\e.fh=ab zC a.b.ff/\[e.el]=[[dI i.dp,dI (↑c.dy.length:Int)]]/\(dN e)/\fp (ez ((zO i).snd=(↑c.dy.length:Int)/\(zO i).fst.iN=a.b.iN/\(zO i).fst.iM=a.b.iM/\(zO i).fst.gp=a.b.gp/\(zO i).fst.gj=a.b.gj/\af dw 3 zG (zO i).fst.a=af dw 3 zG c.tn/\ab zC (zO i).fst.fv=ab zC a.b.fv/\jv (zO i).fst.at_=jv a.b.at_/\ab zC (zO i).fst.ff=ac e.i e.fh++e.el::ae e.i e.fh/\iE (zO i).fst.spare=iE a.b.spare/\True)))))))
def mX:GH.ok Tryz.prog 187:=ix (V:=z4j) mixed fx 0 (λ_=>[]) (λ_=>[]) [] Tryz.func187 λ(i:D4) _=>by
 unfold z4j ez;refine Cv.du.mk (λc=> ?_) (λc=> ?_)
 ·have c:i.side=1:=by simpa using c
  rw[jj,fk c];exact kp
 ·have c:¬i.side=1:=by simpa using c
  rw[jj,dx c];exact kp
def yNw:Ma.ok Tryz.prog 255:=ix (V:=yOm) mixed fx 0 (λ_=>[]) (λ_=>[]) [] Tryz.func255 λ(s:Slot) _=>by
 unfold yOm ez;exact kp
def xBc {l:List Slot} {k:Nat} {s:Slot} (h:l[k]? =ba s):zF (l.map zT) k 0 8=ba [D.v (.bool s.used),.v (.int .i64 s.n),.v (.int .i64 s.id),.v (.int .i64 s.dq),.v (.bool s.top),.v (.int .i64 s.queue),.v (.int .i64 s.ahead),.v (.int .i64 s.back)]:=kf h (by simp[zT]) rfl
def yQq (l:List Slot) (h:BU.du l):z6q l:=by
 have h:l.length<=1000000:=h;unfold z6q Q0 fp ez dI;simp only[iz];refine⟨0,rfl,λj=>j<=l.length/\∀k<j,∀x,l[k]? =ba x->(!x.used)=au,λj=>l.length-j,⟨oM,λk hk=>by omega⟩,?_⟩;rintro j ⟨h3,h4⟩;refine zI (λhj=> ?_) (λhj=> ?_)
 ·obtain⟨s,hs⟩:=z6 (l:=l) (i:=j) oM;refine⟨⟨oM,oM⟩,s.used,s.n,s.id,s.dq,s.top,s.queue,s.ahead,s.back,xBc hs,s,rn ⟨rfl,trivial,λ_ _=>Cv.du.mk (λe=> ?_) (λe=> ?_)⟩⟩
  ·rw[jM,YT hs e h4];exact kp
  ·refine⟨j+1,by rw[iD (by omega)];rfl,⟨oM,λk hk x hx=> ?_⟩,by(first|omega|(dsimp only;omega)),ic⟩;rcases vx k j with tb|tb
   ·exact h4 k tb x hx
   ·obtain rfl:k=j:=by omega
    rw[hs]at hx;cases hx;exact e
 ·rw[jM,ZV λk x hx=>h4 k (by have:=(ju.1 hx).1;omega) x hx];exact kp
def z9v:BU.ok Tryz.prog 254:=ix mixed (dz yNw fx) 0 (λ_=>[]) (λl=>yPx l) [] Tryz.func254 yQq
def z1r:Mv.ok Tryz.prog 256:=ix (V:=yOn) mixed fx 0 (λ_=>[]) (λ_=>[]) [0] Tryz.func256 λ(a:dw) h=>by
 have h:a.dy.length<=1000000:=h;unfold yOn ez dI;rw[iQ,iz,iD (by simp only[iY,Al];omega)];refine⟨oM,(),?_,rfl,rfl,?_,trivial⟩
 ·simp
 ·rw[jz];rfl
def aA {α:Type} {f:α->α}:∀{l:List α} {i:Nat} {x:α},l[i]? =ba x->l.modify i f=l.set i (f x)
 |[],i,x,h=>by simp at h
 |a::l,0,x,h=>by simp at h;subst h;rfl
 |a::l,i+1,x,h=>by
  simp only[A5]at h;simp only[Nq,Jl,aA h]
def yK {α:Type} {f:α->List D} {l:List α} {i g:Nat} {x y:α} {ds:List D} (hi:l[i]? =ba x) (hh:(f x).take g++(ds++(f x).drop (g+ds.length))=f y):zX (l.map f) i g ds=(l.set i y).map f:=by
 have iq:=(ju.1 hi).1;rw[zX,aA (by rw[uz,hi];rfl),hh,List.map_set]
def gO {α:Type} {l:List α} {i:Nat} {x y:α} (hi:l[i]? =ba x):(l.set i y)[i]? =ba y:=List.getElem?_set_self (ju.1 hi).1
def zJ {α:Type} {l:List α} {i:Nat} {x d:α} (h:l[i]? =ba x):l.getD i d=x:=by rw[mi,h];rfl
def y9e (i:Nd) (h:Kl.du i):yZh i:=by
 have h:i.a.dv.length<=1000000:=h;unfold yZh ez U8 ez;simp only[iz];have no (e:i.a.iB i.n=au):i.a.ng i.n i.t=i.a:=by rw[dw.ng,dx (by rw[e];decide)]
 refine zI (λc=> ?_) (λc=>zI (λd=> ?_) (λd=> ?_))
 ·have e:i.a.iB i.n=au:=by rw[dw.iB,jq (by omega),vd]
  rw[no e,e];exact kp
 ·have e:i.a.iB i.n=au:=by rw[dw.iB,jq (show ¬i.n<(i.a.dv.length:Int)by omega),vd,Hy]
  rw[no e,e];exact kp
 ·obtain⟨s,hs⟩:=z6 (l:=i.a.dv) (i:=i.n.toNat) oM;have eu:i.a.iB i.n=s.used:=by rw[dw.iB,kx (show 0<=i.n by omega),kx (show i.n<(i.a.dv.length:Int)by omega),zJ hs];simp
  refine⟨⟨oM,oM⟩,s.used,kf hs (by simp[zT]) rfl,Cv.du.mk (λu=> ?_) (λu=> ?_)⟩
  ·have e:i.a.iB i.n=au:=by rw[eu];simpa using u
   rw[no e,e];exact kp
  ·have e:i.a.iB i.n=ar:=by rw[eu];simpa using u
   have et:i.a.ng i.n i.t={i.a with dv:=i.a.dv.set i.n.toNat {s with top:=i.t}}:=by
    rw[dw.ng,fk e,aA hs]
   rw[et,e,yK hs (y:={s with top:=i.t}) rfl];refine⟨⟨oM,oM⟩,oM,(),oT trivial⟩
def yCj:Kl.ok Tryz.prog 253:=ix mixed fx 1 (λ_=>[]) (λ_=>[]) [0] Tryz.func253 y9e
def yNg {l:List Slot} (h:∃s∈l,s.used=au):∃k:Nat,jM l=k/\k<l.length:=by
 obtain⟨s,hs,hu⟩:=h;cases hf:l.findIdx? λs=> !s.used with
 |none=>
  rw[Ps]at hf;have:=hf s hs;rw[hu]at this;cases this
 |some k=>
  rw[Nr]at hf;exact⟨k,by rw[jM,show(l.findIdx? λs=> !s.used)=ba k by rw[Nr];exact hf];rfl,hf.1⟩
def y0b (i:De) (h:Gv.du i):yJr i:=by
 obtain⟨h1,h2,h3⟩:i.a.fit:=h;unfold yJr fp ez eL eC lC eX zEt ez Z7 ez lA yL dI;simp only[iz];have out (e:i.n<0\/i.a.dy.length<=i.n):i.a.push i.n i.id i.dq i.top=(i.a,0,26):=by rw[dw.push,fk e]
 refine zI (λc=>Cv.du.mk (λd=> ?_) (λd=> ?_)) (λc=> ?_)
 ·have d:¬i.n<(i.a.dy.length:Int):=by simpa using d
  rw[out (.inr (by omega))];exact kp
 ·have d:i.n<(i.a.dy.length:Int):=by simpa using d
  have hn:¬(i.n<0\/(i.a.dy.length:Int)<=i.n):=by omega
  refine zI (λq1=> ?_) (λq1=>zI (λq2=> ?_) (λq2=>Cv.du.mk (λfr=> ?_) (λfr=> ?_)))
  ·rw[dw.push,dx hn,fk (.inl q1)];exact kp
  ·rw[dw.push,dx hn,fk (.inr q2)];exact kp
  ·rw[dw.push,dx hn,dx (by omega),fk (by simpa using fr)];exact kp
  ·have fr:i.a.free≠0:=by simpa using fr
   have ep:i.a.push i.n i.id i.dq i.top=(i.a.put i.n i.id i.dq i.top,jM i.a.dv,0):=by rw[dw.push,dx hn,dx (by omega),dx fr]
   obtain⟨k,hk,rk⟩:=yNg (h2 fr);obtain⟨q,hq⟩:=z6 (l:=i.a.dy) (i:=i.n.toNat) oM;have hqm:=mc hq;have hl:=h3 q hqm;obtain⟨s,hs⟩:=z6 rk;refine⟨i.a.dv,rfl,h1,λ_ _=>⟨⟨oM,oM⟩,q.last,kf hq (by simp[zQ]) rfl,⟨oM,oM⟩,by rw[hk];exact rk,q.last,kf hq (by simp[zQ]) rfl,?_⟩⟩;rw[ep];have aa0:i.a.put i.n i.id i.dq i.top=⟨if q.last= -1 then i.a.dv.set k ⟨ar,k,i.id,i.dq,i.top,i.n,q.last,-1⟩else(i.a.dv.set k ⟨ar,k,i.id,i.dq,i.top,i.n,q.last,-1⟩).modify q.last.toNat λs=>{s with back:=k},i.a.dy.set i.n.toNat ⟨if q.last= -1 then k else q.first,k,aa.wrap (q.total+i.dq),aa.wrap (q.count+1)⟩,aa.wrap (i.a.free-1)⟩:=by
    simp only[dw.put,zJ hq,hk,ml]
   rw[aa0,hk];simp only[ml];have es:zX (ab zT i.a.dv) k 0 [D.v (.bool ar),D.v (.int .i64 k),D.v (.int .i64 i.id),D.v (.int .i64 i.dq),D.v (.bool i.top),D.v (.int .i64 i.n),D.v (.int .i64 q.last),D.v (.int .i64 (-1))]=ab zT (i.a.dv.set k ⟨ar,k,i.id,i.dq,i.top,i.n,q.last,-1⟩):=yK hs rfl;rw[es];refine Cv.du.mk (λe=> ?_) (λe=> ?_)
   ·have e:q.last= -1:=by simpa using e
    have e1:zX (ab zQ i.a.dy) i.n.toNat (0+0) [D.v (.int .i64 k)]=ab zQ (i.a.dy.set i.n.toNat {q with first:=k}):=yK hq rfl;have g1:=gO (y:={q with first:=(k:Int)}) hq;have e2:zX (ab zQ (i.a.dy.set i.n.toNat {q with first:=k})) i.n.toNat (0+1) [D.v (.int .i64 k)]=ab zQ (i.a.dy.set i.n.toNat {q with first:=k,last:=k}):=by
     rw[yK g1 (y:={q with first:=(k:Int),last:=(k:Int)}) rfl,Et]
    have g2:=gO (y:={q with first:=(k:Int),last:=(k:Int)}) hq;have e3:zX (ab zQ (i.a.dy.set i.n.toNat {q with first:=k,last:=k})) i.n.toNat (0+2) [D.v (.int .i64 (aa.wrap (q.total+i.dq)))]=ab zQ (i.a.dy.set i.n.toNat {q with first:=k,last:=k,total:=aa.wrap (q.total+i.dq)}):=by
     rw[yK g2 (y:={q with first:=(k:Int),last:=(k:Int),total:=aa.wrap (q.total+i.dq)}) rfl,Et]
    have g3:=gO (y:={q with first:=(k:Int),last:=(k:Int),total:=aa.wrap (q.total+i.dq)}) hq;have e4:zX (ab zQ (i.a.dy.set i.n.toNat {q with first:=k,last:=k,total:=aa.wrap (q.total+i.dq)})) i.n.toNat (0+3) [D.v (.int .i64 (aa.wrap (q.count+1)))]=ab zQ (i.a.dy.set i.n.toNat ⟨k,k,aa.wrap (q.total+i.dq),aa.wrap (q.count+1)⟩):=by
     rw[yK g3 (y:=⟨k,k,aa.wrap (q.total+i.dq),aa.wrap (q.count+1)⟩) rfl,Et]
    rw[e1,e2];simp only[fk e];refine⟨oM,by simp only[iz,rj];omega,q.total,kf g2 (by simp[zQ]) rfl,by simp only[iz,rj];omega,q.count,?_,by rw[e3];simp only[iz,rj];omega,(),?_⟩
    ·rw[e3];exact kf g3 (by simp[zQ]) rfl
    ·rw[e3,e4];exact kp
   ·have e:¬q.last= -1:=by simpa using e
    have hl:0<=q.last/\q.last<i.a.dv.length:=hl.resolve_left e;have e2:zX (ab zQ i.a.dy) i.n.toNat (0+1) [D.v (.int .i64 k)]=ab zQ (i.a.dy.set i.n.toNat {q with last:=k}):=yK hq rfl;have g2:=gO (y:={q with last:=(k:Int)}) hq;have e3:zX (ab zQ (i.a.dy.set i.n.toNat {q with last:=k})) i.n.toNat (0+2) [D.v (.int .i64 (aa.wrap (q.total+i.dq)))]=ab zQ (i.a.dy.set i.n.toNat {q with last:=k,total:=aa.wrap (q.total+i.dq)}):=by
     rw[yK g2 (y:={q with last:=(k:Int),total:=aa.wrap (q.total+i.dq)}) rfl,Et]
    have g3:=gO (y:={q with last:=(k:Int),total:=aa.wrap (q.total+i.dq)}) hq;have e4:zX (ab zQ (i.a.dy.set i.n.toNat {q with last:=k,total:=aa.wrap (q.total+i.dq)})) i.n.toNat (0+3) [D.v (.int .i64 (aa.wrap (q.count+1)))]=ab zQ (i.a.dy.set i.n.toNat ⟨q.first,k,aa.wrap (q.total+i.dq),aa.wrap (q.count+1)⟩):=by
     rw[yK g3 (y:=⟨q.first,k,aa.wrap (q.total+i.dq),aa.wrap (q.count+1)⟩) rfl,Et]
    obtain⟨s2,yu⟩:=z6 (l:=i.a.dv.set k ⟨ar,k,i.id,i.dq,i.top,i.n,q.last,-1⟩) (i:=q.last.toNat) (by rw[rj];omega);have e5:zX (ab zT (i.a.dv.set k ⟨ar,k,i.id,i.dq,i.top,i.n,q.last,-1⟩)) q.last.toNat (0+7) [D.v (.int .i64 k)]=ab zT ((i.a.dv.set k ⟨ar,k,i.id,i.dq,i.top,i.n,q.last,-1⟩).modify q.last.toNat λs=>{s with back:=k}):=by
     rw[yK yu (y:={s2 with back:=(k:Int)}) rfl,aA yu]
    rw[e2];simp only[dx e];refine⟨q.last,kf hq (by simp[zQ]) rfl,⟨oM,by simp only[iz,rj];omega⟩,by simp only[iz,rj];omega,oM,q.total,kf g2 (by simp[zQ]) rfl,by simp only[iz,rj];omega,q.count,?_,by rw[e3];simp only[iz,rj];omega,(),?_⟩
    ·rw[e3];exact kf g3 (by simp[zQ]) rfl
    ·rw[e3,e4,e5];exact kp
 ·rw[out (.inl (by omega))];exact kp
def z3q:Gv.ok Tryz.prog 242:=ix mixed (dz z9v fx) 1 (λ_=>[]) (λ_=>[]) [0] Tryz.func242 y0b
def rX {s dp:Int}:∀{l:List xV} {j:Nat},j<=l.length->(∀k<j,∀r,l[k]? =ba r->jj s r.dp dp=ar)->(∀r,l[j]? =ba r->jj s r.dp dp=au)->yA s l dp=j
 |[],j,hj,_,_=>by
  obtain rfl:j=0:=by simpa using hj
  rfl
 |r::l,0,_,_,he=>by
  have:=he r rfl;rw[yA,List.takeWhile_cons,this];rfl
 |r::l,j+1,hj,h,he=>by
  have h0:=h 0 oM r rfl;have ih:=rX (l:=l) (j:=j) (by simpa using hj) (λk hk x hx=>h (k+1) oM x (by simpa using hx)) (λx hx=>he x (by simpa using hx));rw[yA]at ih ⊢;rw[List.takeWhile_cons,h0,fk rfl,iY,ih]
def UA (s dp:Int) (l:List xV):yA s l dp<=l.length:=(List.takeWhile_sublist _).length_le
def tY (b:dt):b.eg 1=b.fv:=rfl
def eN (b:dt):b.eg 2=b.ff:=rfl
def y4d (i:oU) (h:Gc.du i):yIz i:=by
 obtain⟨_,h1,h2,_⟩:i.b.small:=h;unfold yIz fp tN tQ Q0 zEw ez zFr ez bF QF QQ uY qA dI;simp only[iz,tY];refine⟨0,rfl,λj=>j<=i.b.fv.length/\∀k<j,∀r,i.b.fv[k]? =ba r->jj 1 r.dp i.dp=ar,λj=>i.b.fv.length-j,⟨oM,λk hk=>by omega⟩,?_⟩;rintro j ⟨h3,h4⟩;refine zI (λhj=> ?_) (λhj=> ?_)
 ·obtain⟨r,hr⟩:=z6 (l:=i.b.fv) (i:=j) oM;refine⟨⟨oM,oM⟩,r.dp,kf hr (by simp[zC]) rfl,⟨1,r.dp,i.dp⟩,rfl,rfl,rfl,trivial,λ_ _=> ?_⟩;dsimp only;refine Cv.du.mk (λe=>⟨j+1,by rw[iD (by omega)];rfl,⟨oM,λk hk x hx=> ?_⟩,by(first|omega|(dsimp only;omega)),ic⟩) (λe=>zI (λ_=> ?_) (λc=>absurd hj c))
  ·rcases vx k j with tb|tb
   ·exact h4 k tb x hx
   ·obtain rfl:k=j:=by omega
    rw[hr]at hx;cases hx;exact e
  ·have en:yA 1 i.b.fv i.dp=j:=rX h3 h4 λx hx=>by rw[hr]at hx;cases hx;exact e
   have eb:jP 1 i.b.fv i.dp=(r.dp==i.dp):=by rw[jP,en,hr];exact(X3 _ _).symm
   refine⟨⟨oM,oM⟩,r.dp,kf hr (by simp[zC]) rfl,(),by rw[en],eb,?_⟩
   (repeat'(first|exact trivial|exact rfl|apply ay))
 ·have en:yA 1 i.b.fv i.dp=j:=rX h3 h4 λx hx=>by have:=(ju.1 hx).1;omega
  have eb:jP 1 i.b.fv i.dp=au:=by rw[jP,en,ue (by omega)]
  refine zI (λc=>absurd c hj) (λ_=>⟨(),by rw[en],eb,?_⟩)
  (repeat'(first|exact trivial|exact rfl|apply ay))
def XY:Gc.ok Tryz.prog 245:=ix mixed (dz mX fx) 0 (λ_=>[]) (λ_=>yWx) [] Tryz.func245 y4d
def wS (l:List (Int×Place)) (k:Int):∀(p:bv×List D),p∈jv l->kr (ap aa k) p.1=ar:=by
 intro p hp;obtain⟨x,_,rfl⟩:=oe.1 hp;rfl
def M0 (k:Int):∀l:List (Int×Place),kH (ap aa k) (jv l)=(lp l k).map z9f
 |[]=>rfl
 |(a,v)::l=>by
  have ih:=M0 k l;show(bif (xw .i64 .i64 && decide (k=a))then _ else kH _ (jv l))=_;by_cases h:k=a
  ·subst h;simp[lp,xw]
  ·have h':¬a=k:=λe=>h e.symm
   rw[show(xw .i64 .i64 && decide (k=a))=au by simp[h],cond_false,ih];simp[lp,KR,h']
def MJ:Place:=⟨0,0,0⟩
def Mz (l:List (Int×Place)) (k:Int):kH (ap aa k) (jv l)=ba [D.v (.int .i64 ((lp l k).getD MJ).side),D.v (.int .i64 ((lp l k).getD MJ).dp),D.v (.int .i64 ((lp l k).getD MJ).slot)]/\(lp l k).isSome=ar\/kH (ap aa k) (jv l)=bc/\[D.v (.int .i64 ((lp l k).getD MJ).side),D.v (.int .i64 ((lp l k).getD MJ).dp),D.v (.int .i64 ((lp l k).getD MJ).slot)]=[D.v (.int .i64 0),D.v (.int .i64 0),D.v (.int .i64 0)]/\(lp l k).isSome=au:=by
 rw[M0];cases lp l k with
 |none=>exact .inr ⟨rfl,rfl,rfl⟩
 |some v=>exact .inl ⟨rfl,rfl⟩
def z0f (k:Int) (v:Place):∀l,jI (ap aa k) (z9f v) (jv l)=jv (lG k v l)
 |[]=>rfl
 |(a,b)::l=>by
  have ih:=z0f k v l;show(bif (xw .i64 .i64 && decide (k=a))then _ else _::jI _ _ (jv l))=_;rw[ih,lG];by_cases h:k=a
  ·subst h;simp[xw,jv]
  ·simp[h,jv]
def y5m (i:Cq) (h:F8.du i):yQz i:=by
 obtain⟨⟨ha,_⟩,h1,h2,_⟩:i.b.small:=h;unfold yQz fp ez zEo Z6 sX ez bP QF dI;have no (e:i.b.iZ 1=i.b.a):af dw 3 zG (i.b.iZ 1)=zR i.b 1:=by rw[e];rfl
 refine Cv.du.mk (λc=> ?_) (λc=>⟨(),?_⟩)
 ·have c:i.b.nn 1=ar:=c;refine⟨wS _ _,(lp i.b.at_ i.b.iN).isSome,_,_,_,Mz _ _,⟨wS _ _,(lp i.b.at_ i.b.iN).isSome,_,_,_,Mz _ _,(jh trivial),rfl,trivial⟩,rfl,trivial,Cv.du.mk (λd=>Cv.du.mk (λe=> ?_) (λe=>⟨(),?_⟩)) (λd=>⟨(),?_⟩)⟩
  ·obtain⟨o,ho⟩:=Pq.1 d;have e:o.side=1:=by rw[ho]at e;simpa using e
   have eu:i.b.iZ 1=i.b.a.ng o.slot au:=by
    have ht:lp i.b.at_ (i.b.jd 1)=ba o:=ho;rw[dt.iZ,fk c,ht];dsimp only;rw[fk e]
   refine⟨⟨i.b.a,o.slot,au⟩,by rw[ho];rfl,rfl,rfl,ha,λ_ _=>⟨(),?_⟩⟩;rw[eu];(repeat'(first|exact trivial|exact rfl|apply ay))
  ·obtain⟨o,ho⟩:=Pq.1 d;have e:¬o.side=1:=by rw[ho]at e;simpa using e
   have ht:lp i.b.at_ (i.b.jd 1)=ba o:=ho;rw[no (by rw[dt.iZ,fk c,ht];dsimp only;rw[dx e])];(repeat'(first|exact trivial|exact rfl|apply ay))
  ·have ht:lp i.b.at_ (i.b.jd 1)=bc:=by
    show lp i.b.at_ i.b.iN=bc;simpa using d
   rw[no (by rw[dt.iZ,fk c,ht])];(repeat'(first|exact trivial|exact rfl|apply ay))
 ·have c:¬i.b.nn 1=ar:=by rw[show i.b.nn 1=i.b.gp from rfl,c];decide
  rw[no (by rw[dt.iZ,dx c])];(repeat'(first|exact trivial|exact rfl|apply ay))
def yRc:F8.ok Tryz.prog 241:=ix mixed (dz yCj fx) 0 (λ_=>[]) (λ_=>[]) [] Tryz.func241 y5m
def z6c {s dp:Int} {l:List xV} (h:jP s l dp=ar):∃r,l[yA s l dp]? =ba r:=by
 rw[jP]at h;split at h
 ·rename_i r hr;exact⟨r,hr⟩
 ·cases h
def yVz (i:oU) (h:Dv.du i):yCv i:=by
 obtain⟨⟨ha,_⟩,ha',h1,h2,h3⟩:i.b.fit:=h;have hle:=UA 1 i.dp i.b.fv;unfold yCv fp ez Qu Qw zP dF dN pX pW hP dS uY qN QL qA dI;refine⟨i,rn (jh ⟨rfl,⟨⟨ha,oM⟩,oM,oM,oM⟩,λ_ _=> ?_⟩)⟩;simp only[iz,yW,tY];refine Cv.du.mk (λc=> ?_) (λc=> ?_)
 ·obtain⟨r,hr⟩:=z6c c;have iq:=(ju.1 hr).1;have e:i.b.gr 1 i.dp=(i.b,r.queue):=by rw[dt.gr,fk (by rw[tY];exact c),tY,zJ hr]
  rw[e];refine⟨⟨oM,oM⟩,r.queue,kf (by simpa using hr) (by simp[zC]) rfl,(),?_⟩
  (repeat'(first|exact trivial|exact rfl|apply ay))
 ·have e:i.b.gr 1 i.dp=({i.b with a:=i.b.iW.2.2,fv:=i.b.ins 1 i.dp,spare:=i.b.iW.2.1},i.b.iW.1):=by
   rw[dt.gr,dx (by rw[tY,c];decide),fk rfl]
  have BB:ab zC (i.b.ins 1 i.dp)=ac (yA 1 i.b.fv i.dp) (ab zC i.b.fv)++zC ⟨i.dp,i.b.iW.1⟩::ae (yA 1 i.b.fv i.dp) (ab zC i.b.fv):=by
   rw[dt.ins,tY,jz,iT,GS,Jd]
  rw[e];refine zI (λd=> ?_) (λd=> ?_)
  ·have w:aa.wrap ((i.b.spare.length:Int)-1)=((i.b.spare.length-1:Nat):Int):=by rw[iD (by omega)];omega
   rw[w];simp only[ml];obtain⟨q,hq⟩:=z6 (l:=i.b.spare) (i:=i.b.spare.length-1) oM;have eq:i.b.iW=(q,i.b.spare.take (i.b.spare.length-1),i.b.a):=by rw[dt.iW,dx (by omega),zJ hq]
   rw[eq]at BB ⊢;refine⟨⟨oM,oM⟩,q,rz hq,⟨oM,oM⟩,trivial,⟨i.b.fv.map zC,zC ⟨i.dp,q⟩,yA 1 i.b.fv i.dp⟩,rfl,rfl,rfl,⟨by rw[iz];exact hle,by rw[iz];omega⟩,λ_ _=>⟨(),?_⟩⟩;have hs:iE (i.b.spare.take (i.b.spare.length-1))=(iE i.b.spare).take (i.b.spare.length-1):=by simp only[iE,GS]
   exact kp
  ·have eq:i.b.iW=((i.b.a.dy.length:Int),i.b.spare,i.b.a.tn):=by rw[dt.iW,fk (by omega)]
   rw[eq]at BB ⊢;refine⟨i.b.a,rfl,oM,λ_ _=>⟨trivial,⟨i.b.fv.map zC,zC ⟨i.dp,i.b.a.dy.length⟩,yA 1 i.b.fv i.dp⟩,rfl,rfl,rfl,⟨by rw[iz];exact hle,by rw[iz];omega⟩,λ_ _=>⟨(),?_⟩⟩⟩
   exact kp
def Y1:gD Tryz.prog 268=ba (276,2,16,#[.int .i64 0,.int .i64 0]):=by kernel_rfl
def yCd:SQ.ok Tryz.prog 257:=
 ID (tS:=268) (tI:=3) (fO:=262) (fR:=263) (z:= #[.int .i64 0,.int .i64 0]) mixed Tryz.func257 rfl (by kernel_rfl) (by kernel_rfl) (by kernel_rfl) (by kernel_rfl) Y1 rfl Z8 Z8 (by kernel_rfl) Tryz.underlying3
  (yWs (tS:=268) (tB:=4) Tryz.func262 (by kernel_rfl) (by kernel_rfl) (by kernel_rfl) (by kernel_rfl) Y1) (λs sn sk i v vn vk w R=>by kernel_rfl)
def yFo:Dv.ok Tryz.prog 243:=ix mixed (dz XY (dz z1r (dz yCd fx))) 0 (λ_=>[]) (λ_=>[]) [] Tryz.func243 yVz
def y4h (i:oU) (h:Gb.du i):yKq i:=by
 obtain⟨_,h1,h2,_⟩:i.b.small:=h;unfold yKq fp eA zEz ez zEj ez gC x9 bF QF QQ tQ Q0 dI;simp only[iz,eN];refine⟨0,rfl,λj=>j<=i.b.ff.length/\∀k<j,∀r,i.b.ff[k]? =ba r->jj 2 r.dp i.dp=ar,λj=>i.b.ff.length-j,⟨oM,λk hk=>by omega⟩,?_⟩;rintro j ⟨h3,h4⟩;refine zI (λhj=> ?_) (λhj=> ?_)
 ·obtain⟨r,hr⟩:=z6 (l:=i.b.ff) (i:=j) oM;refine⟨⟨oM,oM⟩,r.dp,kf hr (by simp[zC]) rfl,⟨2,r.dp,i.dp⟩,rfl,rfl,rfl,trivial,λ_ _=> ?_⟩;dsimp only;refine Cv.du.mk (λe=>⟨j+1,by rw[iD (by omega)];rfl,⟨oM,λk hk x hx=> ?_⟩,by(first|omega|(dsimp only;omega)),ic⟩) (λe=>zI (λ_=> ?_) (λc=>absurd hj c))
  ·rcases vx k j with tb|tb
   ·exact h4 k tb x hx
   ·obtain rfl:k=j:=by omega
    rw[hr]at hx;cases hx;exact e
  ·have en:yA 2 i.b.ff i.dp=j:=rX h3 h4 λx hx=>by rw[hr]at hx;cases hx;exact e
   have eb:jP 2 i.b.ff i.dp=(r.dp==i.dp):=by rw[jP,en,hr];exact(X3 _ _).symm
   refine⟨⟨oM,oM⟩,r.dp,kf hr (by simp[zC]) rfl,(),by rw[en],eb,?_⟩
   (repeat'(first|exact trivial|exact rfl|apply ay))
 ·have en:yA 2 i.b.ff i.dp=j:=rX h3 h4 λx hx=>by have:=(ju.1 hx).1;omega
  have eb:jP 2 i.b.ff i.dp=au:=by rw[jP,en,ue (by omega)]
  refine zI (λc=>absurd c hj) (λ_=>⟨(),by rw[en],eb,?_⟩)
  (repeat'(first|exact trivial|exact rfl|apply ay))
def XA:Gb.ok Tryz.prog 245:=ix mixed (dz mX fx) 0 (λ_=>[]) (λ_=>yWx) [] Tryz.func245 y4h
def y0k (i:Cq) (h:F7.du i):yMm i:=by
 obtain⟨⟨ha,_⟩,h1,h2,_⟩:i.b.small:=h;unfold yMm fp ez Z5 zEe eM ez bP QF dI;have no (e:i.b.iZ 2=i.b.a):af dw 3 zG (i.b.iZ 2)=zR i.b 1:=by rw[e];rfl
 refine Cv.du.mk (λc=> ?_) (λc=>⟨(),?_⟩)
 ·have c:i.b.nn 2=ar:=c;refine⟨wS _ _,(lp i.b.at_ i.b.iM).isSome,_,_,_,Mz _ _,⟨wS _ _,(lp i.b.at_ i.b.iM).isSome,_,_,_,Mz _ _,(jh trivial),rfl,trivial⟩,rfl,trivial,Cv.du.mk (λd=>Cv.du.mk (λe=> ?_) (λe=>⟨(),?_⟩)) (λd=>⟨(),?_⟩)⟩
  ·obtain⟨o,ho⟩:=Pq.1 d;have e:o.side=2:=by rw[ho]at e;simpa using e
   have eu:i.b.iZ 2=i.b.a.ng o.slot au:=by
    have ht:lp i.b.at_ (i.b.jd 2)=ba o:=ho;rw[dt.iZ,fk c,ht];dsimp only;rw[fk e]
   refine⟨⟨i.b.a,o.slot,au⟩,by rw[ho];rfl,rfl,rfl,ha,λ_ _=>⟨(),?_⟩⟩;rw[eu];(repeat'(first|exact trivial|exact rfl|apply ay))
  ·obtain⟨o,ho⟩:=Pq.1 d;have e:¬o.side=2:=by rw[ho]at e;simpa using e
   have ht:lp i.b.at_ (i.b.jd 2)=ba o:=ho;rw[no (by rw[dt.iZ,fk c,ht];dsimp only;rw[dx e])];(repeat'(first|exact trivial|exact rfl|apply ay))
  ·have ht:lp i.b.at_ (i.b.jd 2)=bc:=by
    show lp i.b.at_ i.b.iM=bc;simpa using d
   rw[no (by rw[dt.iZ,fk c,ht])];(repeat'(first|exact trivial|exact rfl|apply ay))
 ·have c:¬i.b.nn 2=ar:=by rw[show i.b.nn 2=i.b.gj from rfl,c];decide
  rw[no (by rw[dt.iZ,dx c])];(repeat'(first|exact trivial|exact rfl|apply ay))
def yOw:F7.ok Tryz.prog 241:=ix mixed (dz yCj fx) 0 (λ_=>[]) (λ_=>[]) [] Tryz.func241 y0k
def yVm (i:oU) (h:Du.du i):yEb i:=by
 obtain⟨⟨ha,_⟩,ha',h1,h2,h3⟩:i.b.fit:=h;have hle:=UA 2 i.dp i.b.ff;unfold yEb fp ez Qu Qx zO dR gC dF dN pX pW hP qN QL x9 dI;refine⟨i,rn (jh ⟨rfl,⟨⟨ha,oM⟩,oM,oM,oM⟩,λ_ _=> ?_⟩)⟩;simp only[iz,yW,eN];refine Cv.du.mk (λc=> ?_) (λc=> ?_)
 ·obtain⟨r,hr⟩:=z6c c;have iq:=(ju.1 hr).1;have e:i.b.gr 2 i.dp=(i.b,r.queue):=by rw[dt.gr,fk (by rw[eN];exact c),eN,zJ hr]
  rw[e];refine⟨⟨oM,oM⟩,r.queue,kf (by simpa using hr) (by simp[zC]) rfl,(),?_⟩
  (repeat'(first|exact trivial|exact rfl|apply ay))
 ·have e:i.b.gr 2 i.dp=({i.b with a:=i.b.iW.2.2,ff:=i.b.ins 2 i.dp,spare:=i.b.iW.2.1},i.b.iW.1):=by
   rw[dt.gr,dx (by rw[eN,c];decide),dx (by decide)]
  have BB:ab zC (i.b.ins 2 i.dp)=ac (yA 2 i.b.ff i.dp) (ab zC i.b.ff)++zC ⟨i.dp,i.b.iW.1⟩::ae (yA 2 i.b.ff i.dp) (ab zC i.b.ff):=by
   rw[dt.ins,eN,jz,iT,GS,Jd]
  rw[e];refine zI (λd=> ?_) (λd=> ?_)
  ·have w:aa.wrap ((i.b.spare.length:Int)-1)=((i.b.spare.length-1:Nat):Int):=by rw[iD (by omega)];omega
   rw[w];simp only[ml];obtain⟨q,hq⟩:=z6 (l:=i.b.spare) (i:=i.b.spare.length-1) oM;have eq:i.b.iW=(q,i.b.spare.take (i.b.spare.length-1),i.b.a):=by rw[dt.iW,dx (by omega),zJ hq]
   rw[eq]at BB ⊢;refine⟨⟨oM,oM⟩,q,rz hq,⟨oM,oM⟩,trivial,⟨i.b.ff.map zC,zC ⟨i.dp,q⟩,yA 2 i.b.ff i.dp⟩,rfl,rfl,rfl,⟨by rw[iz];exact hle,by rw[iz];omega⟩,λ_ _=>⟨(),?_⟩⟩;have hs:iE (i.b.spare.take (i.b.spare.length-1))=(iE i.b.spare).take (i.b.spare.length-1):=by simp only[iE,GS]
   exact kp
  ·have eq:i.b.iW=((i.b.a.dy.length:Int),i.b.spare,i.b.a.tn):=by rw[dt.iW,fk (by omega)]
   rw[eq]at BB ⊢;refine⟨i.b.a,rfl,oM,λ_ _=>⟨trivial,⟨i.b.ff.map zC,zC ⟨i.dp,i.b.a.dy.length⟩,yA 2 i.b.ff i.dp⟩,rfl,rfl,rfl,⟨by rw[iz];exact hle,by rw[iz];omega⟩,λ_ _=>⟨(),?_⟩⟩⟩
   exact kp
def yHw:Du.ok Tryz.prog 243:=ix mixed (dz XA (dz z1r (dz yCd fx))) 0 (λ_=>[]) (λ_=>[]) [] Tryz.func243 yVm
structure Bd where
 b:dt
 id:Int
 dp:Int
 dq:Int
def dt.leads (b:dt) (s dp:Int):Bool:=match b.eg s with
 |[]=>ar
 |r::_=>jj s dp r.dp
def dt.rp (b:dt) (id s dp:Int):dt:=if b.leads s dp=ar then b.jl id s else b
def dt.qi (b:dt) (s id dp dq:Int):dt:=
 let b2:=(b.rp id s dp).gr s dp
 let x:=b2.1.a.push b2.2 id dq (b.leads s dp)
 {b2.1 with a:=x.1,at_:=lG id ⟨s,dp,x.2.1⟩ b2.1.at_}
def dt.iJ (b:dt) (s id dp dq:Int):dt×Int:=
 if dq<1\/1000000<dq then(b,24)else if(lp b.at_ id).isSome=ar then(b,25)else if 250<=b.at_.length then(b,13)else(b.qi s id dp dq,0)
def yRh (s:Int):gx:=gh Bd (λi=>[.nm 0 0,zB i.id,zB s,zB i.dp,zB i.dq]) (λi=>[yE i.b]) (λi=>i.b.fit) (λi=>zB (i.b.iJ s i.id i.dp i.dq).2) (λi=>[yE (i.b.iJ s i.id i.dp i.dq).1])
def yXs:List (Nat×ib):=[(44,bj 14)]
def Gr:gx:=yRh 1
def Gq:gx:=yRh 2
structure BaJ where
 i:Bd
 s:Bool
def Tl:gx:=gh BaJ (λj=>[.nm 0 0,zB j.i.id,zB (zA j.s),zB j.i.dp,zB j.i.dq]) (λj=>[yE j.i.b]) (λj=>j.i.b.fit) (λj=>zB (j.i.b.iJ (zA j.s) j.i.id j.i.dp j.i.dq).2) (λj=>[yE (j.i.b.iJ (zA j.s) j.i.id j.i.dp j.i.dq).1])
structure Hg where
 s:ia
 inst:Int
 id:Int
 sd:Bool
 dp:Int
 dq:Int
def ia.AY (s:ia) (n:Int):dt:=s.fc.getD n.toNat ou
def ia.iJ (i:Hg):ia×Int:=
 if i.inst<0\/i.s.fc.length<=i.inst then(i.s,20)else if(jW i.s.wh i.id).isSome=ar then(i.s,25)else if 250<=i.s.wh.length then(i.s,13)else if i.s.p.dp i.inst i.dp≠0 then(i.s,i.s.p.dp i.inst i.dp)
 else
  let x:=(i.s.AY i.inst).iJ (zA i.sd) i.id i.dp i.dq
  ({i.s with fc:=i.s.fc.set i.inst.toNat x.1,wh:=if x.2=0 then dV i.id i.inst i.s.wh else i.s.wh},x.2)
@[reducible] def ia.fit (s:ia):Prop:=s.p.small/\s.fc.length<=1000000/\∀b∈s.fc,b.fit
def JT:gx:=gh Hg (λi=>[.nm 0 0,zB i.inst,zB i.id,zB (zA i.sd),zB i.dp,zB i.dq]) (λi=>[zD i.s]) (λi=>i.s.fit) (λi=>zB (ia.iJ i).2) (λi=>[zD (ia.iJ i).1])
def eB (a:oU):Prop:=(a.b.a.dv.length<=1000000/\(a.b.a.free≠0->∃(b:Slot),b∈a.b.a.dv/\b.used=au)/\∀(b:cI),b∈a.b.a.dy->b.last=(-1)\/0<=b.last/\b.last<(↑a.b.a.dv.length:Int))/\a.b.a.dy.length<=100000/\a.b.fv.length<=100000/\a.b.ff.length<=100000/\a.b.spare.length<=100000
def tD (a:De):Prop:=a.a.dv.length<=1000000/\(a.a.free≠0->∃(b:Slot),b∈a.a.dv/\b.used=au)/\∀(b:cI),b∈a.a.dy->b.last=(-1)\/0<=b.last/\b.last<(↑a.a.dv.length:Int)
def yR (a:Bd):=(a.b.iJ 1 a.id a.dp a.dq)
def Zz (a:oU) (b:Bd) (c:Bool):Prop:=(eB a)/\fp (True/\∃(e:De),e.n=(zP a).snd/\e.id=b.id/\e.dq=b.dq/\e.top=c/\af dw 3 zG e.a=af dw 3 zG (zP a).fst.a/\(tD e)/\fp ((∀(g:bv×List D),g∈jv (zP a).fst.at_->kr (ap aa b.id) g.fst=ar)/\ez ((yR b).snd=0/\(yR b).fst.iN=(zP a).fst.iN/\(yR b).fst.iM=(zP a).fst.iM/\(yR b).fst.gp=(zP a).fst.gp/\(yR b).fst.gj=(zP a).fst.gj/\af dw 3 zG (yR b).fst.a=af dw 3 zG (yL e).fst/\ab zC (yR b).fst.fv=ab zC (zP a).fst.fv/\ab zC (yR b).fst.ff=ab zC (zP a).fst.ff/\jv (yR b).fst.at_=jI (ap aa b.id) [dI 1,dI b.dp,dI ((yL e).snd.fst)] (jv (zP a).fst.at_)/\iE (yR b).fst.spare=iE (zP a).fst.spare/\True)))
@[reducible] def QE (a:dt)(R:Prop):Prop:=aj 276 2 (ab zC a.fv)=aj 276 2 (ab zC a.fv)/\aj 276 2 (ab zC a.ff)=aj 276 2 (ab zC a.ff)/\am (jv a.at_)=am (jv a.at_)/\R
def Vi (a:Bool->Prop) (b:Bool) (c:Int) (d:Int) (e:Int) (f:Bd):Prop:=a b/\dm (ag [V.d (dI c),V.d (dI d),V.d (dI e)] 286)/\dm (ag [V.nm 1 0,V.own 2,V.own 3,V.mp 4,V.d (dI f.b.iN),V.d (dI f.b.iM),V.own 5,V.d (D.v (.bool f.b.gp)),V.d (D.v (.bool f.b.gj))] (273:ce))/\dm (af dw 3 zG f.b.a)/\QE f.b (dm (aj 3 1 (iE f.b.spare)))
def UJ (a:D4) (b:Bd) (c:Int) (d:Bool->Prop) (e:Int) (f:Int) (g:Int):Prop:=a.x=b.dp/\a.y=c/\True/\fp (∃(j:Bool),j=jj a.side a.x a.y/\Vi d j e f g b)
def UT (a:Bool->Prop) (b:Int) (c:Int) (d:Int) (e:Bd):Prop:=∃(f:Bool),f=ar/\Vi a f b c d e
def m8 (a:Bd):Prop:=(yR a).fst.iN=a.b.iN/\(yR a).fst.iM=a.b.iM/\(yR a).fst.gp=a.b.gp/\(yR a).fst.gj=a.b.gj/\af dw 3 zG (yR a).fst.a=af dw 3 zG a.b.a/\ab zC (yR a).fst.fv=ab zC a.b.fv/\ab zC (yR a).fst.ff=ab zC a.b.ff/\jv (yR a).fst.at_=jv a.b.at_/\iE (yR a).fst.spare=iE a.b.spare/\True
def Zf (a:Bd):Prop:=ez ((yR a).snd=24/\m8 a)
def eV (a:Bd) (b:Int) (c:Int) (d:Int) (e:Bool):Prop:=kH (ap aa a.id) (jv a.b.at_)=ba [dI b,dI c,dI d]/\e=ar\/kH (ap aa a.id) (jv a.b.at_)=bc/\[dI b,dI c,dI d]=[dI 0,dI 0,dI 0]/\e=au
def tC (a:Cq):Prop:=QL a.b.a a.b (a.b.spare.length<=1000000)
def kQ (a:Int):=(!(decide (a=1)||decide (a=2)))
@[reducible] def Qf (a b:dt)(R:Prop):Prop:=a.iN=b.iN/\a.iM=b.iM/\a.gp=b.gp/\a.gj=b.gj/\af dw 3 zG a.a=af dw 3 zG b.a/\ab zC a.fv=ab zC b.fv/\ab zC a.ff=ab zC b.ff/\jv a.at_=jv b.at_/\iE a.spare=iE b.spare/\R
@[reducible] def QG (a b:dt)(R:Prop):Prop:=ab zC a.fv=ab zC b.fv/\ab zC a.ff=ab zC b.ff/\jv a.at_=jv b.at_/\iE a.spare=iE b.spare/\R
def yNa (i:Bd):Prop:=
 (∀(a:bv×List D),a∈jv i.b.at_->kr (ap aa i.id) a.fst=ar)/\∃(a:Bool),∃(b:Int),∃(c:Int),∃(d:Int),(eV i b c d a)/\∃(e:Int),e=1/\True/\fp (du (kQ e) (ez ((yR i).snd=21/\m8 i)) (du (decide (i.dq<1)) (Zf i) (du (decide (i.dq>1000000)) (Zf i) (du a (ez ((yR i).snd=25/\m8 i)) (du (decide ((↑(jv i.b.at_).length:Int)>=250)) (ez ((yR i).snd=13/\m8 i)) (∃(g:Bool),∃(h:Bool->Prop),du ((↑(ab zC i.b.fv).length:Int)==0) (UT h b c d i) (((0:Int)<=(0:Int)/\0<(↑(ab zC i.b.fv).length:Int))/\∃(j:Int),zF (ab zC i.b.fv) (Int.toNat 0) 0 1=ba [dI j]/\∃(k:D4),k.side=1/\UJ k i j h b c d)/\∀(j:Bool),h j->du j (∃(k:Cq),k.id=i.id/\dm ((1:Int))/\Qf k.b i.b ((tC k)/\fp (∃(m:oU),dm ((1:Int))/\m.dp=i.dp/\m.b.iN=k.id/\m.b.iM=k.b.iM/\m.b.gp=ar/\m.b.gj=k.b.gj/\af dw 3 zG m.b.a=af dw 3 zG (k.b.iZ 1)/\QG m.b k.b (Zz m i j)))) (∃(k:oU),dm ((1:Int))/\k.dp=i.dp/\Qf k.b i.b (Zz k i j))))))))
def yT (a:Bd):=(a.b.iJ 2 a.id a.dp a.dq)
def YY (a:oU) (b:Bd) (c:Bool):Prop:=(eB a)/\fp (True/\∃(e:De),e.n=(zO a).snd/\e.id=b.id/\e.dq=b.dq/\e.top=c/\af dw 3 zG e.a=af dw 3 zG (zO a).fst.a/\(tD e)/\fp ((∀(g:bv×List D),g∈jv (zO a).fst.at_->kr (ap aa b.id) g.fst=ar)/\ez ((yT b).snd=0/\(yT b).fst.iN=(zO a).fst.iN/\(yT b).fst.iM=(zO a).fst.iM/\(yT b).fst.gp=(zO a).fst.gp/\(yT b).fst.gj=(zO a).fst.gj/\af dw 3 zG (yT b).fst.a=af dw 3 zG (yL e).fst/\ab zC (yT b).fst.fv=ab zC (zO a).fst.fv/\ab zC (yT b).fst.ff=ab zC (zO a).fst.ff/\jv (yT b).fst.at_=jI (ap aa b.id) [dI 2,dI b.dp,dI ((yL e).snd.fst)] (jv (zO a).fst.at_)/\iE (yT b).fst.spare=iE (zO a).fst.spare/\True)))
def nG (a:Bd):Prop:=(yT a).fst.iN=a.b.iN/\(yT a).fst.iM=a.b.iM/\(yT a).fst.gp=a.b.gp/\(yT a).fst.gj=a.b.gj/\af dw 3 zG (yT a).fst.a=af dw 3 zG a.b.a/\ab zC (yT a).fst.fv=ab zC a.b.fv/\ab zC (yT a).fst.ff=ab zC a.b.ff/\jv (yT a).fst.at_=jv a.b.at_/\iE (yT a).fst.spare=iE a.b.spare/\True
def Y' (a:Bd):Prop:=ez ((yT a).snd=24/\nG a)
def yNi (i:Bd):Prop:=
 (∀(a:bv×List D),a∈jv i.b.at_->kr (ap aa i.id) a.fst=ar)/\∃(a:Bool),∃(b:Int),∃(c:Int),∃(d:Int),(eV i b c d a)/\∃(e:Int),e=2/\True/\fp (du (kQ e) (ez ((yT i).snd=21/\nG i)) (du (decide (i.dq<1)) (Y' i) (du (decide (i.dq>1000000)) (Y' i) (du a (ez ((yT i).snd=25/\nG i)) (du (decide ((↑(jv i.b.at_).length:Int)>=250)) (ez ((yT i).snd=13/\nG i)) (∃(g:Bool),∃(h:Bool->Prop),du ((↑(ab zC i.b.ff).length:Int)==0) (UT h b c d i) (((0:Int)<=(0:Int)/\0<(↑(ab zC i.b.ff).length:Int))/\∃(j:Int),zF (ab zC i.b.ff) (Int.toNat 0) 0 1=ba [dI j]/\∃(k:D4),k.side=2/\UJ k i j h b c d)/\∀(j:Bool),h j->du j (∃(k:Cq),k.id=i.id/\dm ((2:Int))/\Qf k.b i.b ((tC k)/\fp (∃(m:oU),dm ((2:Int))/\m.dp=i.dp/\m.b.iN=k.b.iN/\m.b.iM=k.id/\m.b.gp=k.b.gp/\m.b.gj=ar/\af dw 3 zG m.b.a=af dw 3 zG (k.b.iZ 2)/\QG m.b k.b (YY m i j)))) (∃(k:oU),dm ((2:Int))/\k.dp=i.dp/\Qf k.b i.b (YY k i j))))))))
def ZL (a:Hg):Prop:=ak 1 (iE (ia.iJ a).fst.p.dr)=ak 1 (iE a.s.p.dr)/\ak 1 (iE (ia.iJ a).fst.p.settle)=ak 1 (iE a.s.p.settle)/\True
def Zn (a:Hg):Prop:=z5 (ia.iJ a).fst.wh=z5 a.s.wh/\ZL a
@[reducible] def Ql (a:Hg)(R:Prop):Prop:=sb (ia.iJ a).fst.p.code=sb a.s.p.code/\(ia.iJ a).fst.p.tick=a.s.p.tick/\(ia.iJ a).fst.p.low=a.s.p.low/\(ia.iJ a).fst.p.high=a.s.p.high/\(ia.iJ a).fst.p.wide=a.s.p.wide/\(ia.iJ a).fst.p.gw=a.s.p.gw/\(ia.iJ a).fst.p.top=a.s.p.top/\(ia.iJ a).fst.p.least=a.s.p.least/\(ia.iJ a).fst.p.part=a.s.p.part/\R
def sS (a:Hg):Prop:=Ql a (ao 211 dt 6 zR (ia.iJ a).fst.fc bc=ao 211 dt 6 zR a.s.fc bc/\Zn a)
def Yp (a:Hg):Prop:=ez ((ia.iJ a).snd=20/\sS a)
def sL (a:BaJ):=(a.i.b.iJ (zA a.s) a.i.id a.i.dp a.i.dq)
@[reducible] def EK (a:Int)(b:List dt)(R:Prop):Prop:=a.toNat=a.toNat/\a.toNat<b.length/\R
def yYi (i:Hg):Prop:=
 (∀(a:bv×List D),a∈z5 i.s.wh->kr (ap aa i.id) a.fst=ar)/\∃(a:Bool),∃(b:Int),(kH (ap aa i.id) (z5 i.s.wh)=ba [dI b]/\a=ar\/kH (ap aa i.id) (z5 i.s.wh)=bc/\[dI b]=[dI 0]/\a=au)/\du (decide (i.inst>=0)) (du (!decide (i.inst<(↑i.s.fc.length:Int))) (Yp i) (du a (ez ((ia.iJ i).snd=25/\sS i)) (du (decide ((↑(z5 i.s.wh).length:Int)>=250)) (ez ((ia.iJ i).snd=13/\sS i)) (∃(c:lW),Qa c.p i.s.p (c.a=i.inst/\c.b=i.dp/\(qK c)/\fp (du (c.p.dp c.a c.b !=0) (ez ((ia.iJ i).snd=c.p.dp c.a c.b/\sS i)) ((0<=i.inst/\i.inst<(↑i.s.fc.length:Int))/\i.inst.toNat<i.s.fc.length/\∃(e:dt),i.s.fc[i.inst.toNat]?=ba e/\∃(f:BaJ),f.i.id=i.id/\zA f.s=zA i.sd/\f.i.dp=i.dp/\f.i.dq=i.dq/\yE f.i.b=yE e/\((f.i.b.a.dv.length<=1000000/\(f.i.b.a.free≠0->∃(g:Slot),g∈f.i.b.a.dv/\g.used=au)/\∀(g:cI),g∈f.i.b.a.dy->g.last=(-1)\/0<=g.last/\g.last<(↑f.i.b.a.dv.length:Int))/\f.i.b.a.dy.length<=100000/\f.i.b.fv.length<=100000/\f.i.b.ff.length<=100000/\f.i.b.spare.length<=100000)/\fp (∃(h:dt),yE (sL f).fst=yE h/\EK i.inst i.s.fc (du ((sL f).snd==0) ((∀(j:bv×List D),j∈z5 i.s.wh->kr (ap aa i.id) j.fst=ar)/\ez ((ia.iJ i).snd=(sL f).snd/\Ql i (ao 211 dt 6 zR (ia.iJ i).fst.fc bc=ao 211 dt 6 zR (i.s.fc.set i.inst.toNat h) bc/\z5 (ia.iJ i).fst.wh=jI (ap aa i.id) [dI i.inst] (z5 i.s.wh)/\ZL i))) (ez ((ia.iJ i).snd=(sL f).snd/\Ql i (ao 211 dt 6 zR (ia.iJ i).fst.fc bc=ao 211 dt 6 zR (i.s.fc.set i.inst.toNat h) bc/\Zn i)))))))))))) (Yp i)
end Sx
