/- Texts of ours. No condition. -/
import Derived.Test.YthkofaanekmpmaaGreatW14
set_option linter.all false
open Sx.AObj renaming fro->aa,cells->ab,own->ac
open List renaming map->ae,take->af
namespace Sx
set_option maxRecDepth 100000
open Go Cv Go.Proofs
def y2n (i:ByI):Prop:=
 cnd (i.a.kind==2) (cnd (decide ((↑(bE i.a.b).length:Int)>100)) (((0:Int)<=(100:Int)/\100<=(↑(bE i.a.b).length:Int))/\∃(a:Unit),bE i.r=af (Int.toNat 100) (bE i.a.b)/\True) (∃(a:Unit),bE i.r=bE i.a.b/\True)) (∃(a:TmI),sb a.p.code=sb i.p.code/\iE a.p.months=iE i.p.months/\a.p.tick=i.p.tick/\a.p.low=i.p.low/\a.p.high=i.p.high/\a.p.wide=i.p.wide/\a.p.rule=i.p.rule/\a.p.top=i.p.top/\a.p.least=i.p.least/\a.p.part=i.p.part/\iE a.p.settle=iE i.p.settle/\a.c.kind=i.a.c.kind/\a.c.id=i.a.c.id/\a.c.inst=i.a.c.inst/\a.c.side=i.a.c.side/\a.c.price=i.a.c.price/\a.c.qty=i.a.c.qty/\a.c.least=i.a.c.least/\a.c.time=i.a.c.time/\sb a.c.label=sb i.a.c.label/\a.i=(↑i.k:Int)/\(a.p.check=0/\(a.p.code.length<=1099511627776/\a.p.months.length<=1099511627776/\a.p.settle.length<=1099511627776)/\(((-9223372036854775808)<=a.c.kind/\a.c.kind<=9223372036854775807)/\((-9223372036854775808)<=a.c.id/\a.c.id<=9223372036854775807)/\((-9223372036854775808)<=a.c.inst/\a.c.inst<=9223372036854775807)/\((-9223372036854775808)<=a.c.side/\a.c.side<=9223372036854775807)/\((-9223372036854775808)<=a.c.price/\a.c.price<=9223372036854775807)/\((-9223372036854775808)<=a.c.qty/\a.c.qty<=9223372036854775807)/\((-9223372036854775808)<=a.c.least/\a.c.least<=9223372036854775807)/\(-9223372036854775808)<=a.c.time/\a.c.time<=9223372036854775807)/\0<=a.i/\a.i<=1000000)/\∀(b:Unit),True->∃(c:Cmd),c.kind=(xJ a).kind/\c.id=(xJ a).id/\c.inst=(xJ a).inst/\c.side=(xJ a).side/\c.price=(xJ a).price/\c.qty=(xJ a).qty/\c.least=(xJ a).least/\c.time=(xJ a).time/\sb c.label=sb (xJ a).label/\(c.label=[]/\c.right=0)/\∀(d:Unit),True->∃(e:Unit),bE i.r=bE c.enc/\True)
def xK (a:Prd) (b:SdJ):=(ae yG (y3 a b.x.B))
def lW (a:EpI) (b:Int):Prop:=aa 1 (iE a.p.months)=aa 1 (iE a.p.months)/\dh (aa 1 (iE a.p.settle))/\dh (aa 10 (jT a))/\dh (aa 1 (iE [(500:Int),(505:Int),(490:Int)]))/\dh (aa 1 (iE [(320:Int),(321:Int),(323:Int)]))/\dh (ab [V.d (D.v (Value.string (sb [(67:UInt8),(76:UInt8)]))),V.own 1,V.d (dI 5),V.d (dI 0),V.d (dI 1000),V.d (dI 200),V.d (dI b),V.d (dI 4),V.d (dI 2),V.d (dI 40),V.own 2] 25)
def eH (a:SdJ->Prop) (b:SdJ) (c:Prd) (d:SdJ) (e:EpI) (f:Int):Prop:=a b/\dh (aa 1 (iE c.months))/\dh (aa 1 (iE c.settle))/\dh (aa 10 (xK c d))/\dh (ab [V.own (none.getD (0+((0:Nat)-(0:Nat))+(1:Nat)+(1:Nat)+1+((1:Nat)-(0:Nat))+((8:Nat)-(1:Nat))+((0:Nat)-(0:Nat))+nat_lit 9)),V.own (none.getD (0+((0:Nat)-(0:Nat))+(1:Nat)+(1:Nat)+1+((1:Nat)-(0:Nat))+((8:Nat)-(1:Nat))+((0:Nat)-(0:Nat))+nat_lit 10))] z2v)/\dh (ac z3v 9 (ae xZ d.O))/\dh (ac zVl 7 (ae yN d.N))/\lW e f
def eQ (a:SdJ->Prop) (b:SdJ) (c:EpI) (d:Int):Prop:=a b/\lW c d
def uP (a:EpI):Prop:=(a.p.check=0/\a.p.code.length<=1099511627776/\a.p.months.length<=1099511627776/\a.p.settle.length<=1099511627776)/\(((∀(b:List UInt8),b∈a.L->b.length<=255)/\(zCx a.t).snd.snd=10/\(fsB a.L).length+a.t.length<=1048576)/\a.s<=(fsB a.L++a.t).length/\(fsB a.L++a.t).length<=1048576)/\(∀(b:List UInt8),b∈a.L->b≠[]/\(zR (↑(b.headD (0:UInt8)).toNat:Int) b.tail).snd=0)/\a.L.length<=100000
def uW (a:EoI):Prop:=(a.o.Rep a.p a.x.B a.x.U/\BOk a.p a.x.B)/\a.b.length<=254/\((-1)<=a.s/\a.s<8)/\(0<=a.x.q/\a.x.q<=1000000000000000000)/\a.x.R.length<=1000000/\a.d.b.length+a.b.length+(7:Nat)<=(1048576:Nat)
def vB (a:En):Prop:=List.length a.v<=1099511627776/\∀(b:Sd×Sd),b∈a.v->b.fst.levels.length<=1099511627776/\b.snd.levels.length<=1099511627776
def zYi (p:Prd):Prop:=
 ∃(a:Int),a=1/\True/\∀(b:Unit),True->∃(c:Unit),True/\∀(d:Unit),True->∃(e:EpI),sb e.p.code=sb [(67:UInt8),(76:UInt8)]/\iE e.p.months=iE [(320:Int),(321:Int),(323:Int)]/\e.p.tick=5/\e.p.low=0/\e.p.high=1000/\e.p.wide=200/\e.p.rule=a/\e.p.top=4/\e.p.least=2/\e.p.part=40/\iE e.p.settle=iE [(500:Int),(505:Int),(490:Int)]/\DkR e.j.d=DkR (Dk.mk [] 0)/\(uP e)/\∀(f:Mkt),f.Rep e.p (qS e.p e.L).B (qS e.p e.L).U->∃(g:Cmd),g.kind=1/\g.id=7/\g.inst=0/\g.side=1/\g.price=5/\g.qty=3/\g.least=0/\g.time=1/\sb g.label=ByteArray.mk #[]/\(g.label=[]/\g.right=0)/\∀(h:Unit),True->∃(j:SdJ),sb p.code=sb e.p.code/\p.tick=e.p.tick/\p.low=e.p.low/\p.high=e.p.high/\p.wide=e.p.wide/\p.rule=e.p.rule/\p.top=e.p.top/\p.least=e.p.least/\p.part=e.p.part/\j.x.q=(qS e.p e.L).q/\(↑j.x.R.length:Int)=(↑e.L.length:Int)/\GtR (Gt.mk j.o j.x.W)=GtR (Gt.mk f (qS e.p e.L).W)/\DkR j.d=DkR e.j.d'/\ae rcE j.x.R=ae rcE (qS e.p e.L).R/\aa 1 (iE p.months)=aa 1 (iE e.p.months)/\aa 1 (iE p.settle)=aa 1 (iE e.p.settle)/\aa 10 (xK p j)=aa 10 (jT e)/\∃(k:SdJ->Prop),(∃(l:EoI),l.s=2/\bE l.b=bE g.enc/\sb l.p.code=sb p.code/\l.p.tick=p.tick/\l.p.low=p.low/\l.p.high=p.high/\l.p.wide=p.wide/\l.p.rule=p.rule/\l.p.top=p.top/\l.p.least=p.least/\l.p.part=p.part/\l.x.q=j.x.q/\(↑l.x.R.length:Int)=(↑j.x.R.length:Int)/\GtR (Gt.mk l.o l.x.W)=GtR (Gt.mk j.o j.x.W)/\DkR l.d=DkR j.d/\ae rcE l.x.R=ae rcE j.x.R/\aa 1 (iE l.p.months)=aa 1 (iE p.months)/\aa 1 (iE l.p.settle)=aa 1 (iE p.settle)/\aa 10 (vI l)=aa 10 (xK p j)/\(uW l)/\(∀(m:Mkt),(zR l.s l.b).snd≠0/\m.Rep l.p l.x.B l.x.U->∃(n:SdJ),sb p.code=sb l.p.code/\p.tick=l.p.tick/\p.low=l.p.low/\p.high=l.p.high/\p.wide=l.p.wide/\p.rule=l.p.rule/\p.top=l.p.top/\p.least=l.p.least/\p.part=l.p.part/\n.x.q=l.x.q/\(↑n.x.R.length:Int)=(↑l.x.R.length:Int)/\GtR (Gt.mk n.o n.x.W)=GtR (Gt.mk m l.x.W)/\DkR n.d=DkR l.d/\ae rcE n.x.R=ae rcE l.x.R/\aa 1 (iE p.months)=aa 1 (iE l.p.months)/\aa 1 (iE p.settle)=aa 1 (iE l.p.settle)/\aa 10 (xK p n)=aa 10 (vI l)/\ae xZ n.O=[xZ (l.s,Rep.mk 2 0 0 0 0 0 0 (zR l.s l.b).snd)]/\ae yN n.N=[]/\eQ k n e a)/\∀(m:Mkt),(zR l.s l.b).snd=0/\m.Rep l.p (l.x.X l.p l.s l.b).B (l.x.X l.p l.s l.b).U->∃(n:SdJ),sb p.code=sb l.p.code/\p.tick=l.p.tick/\p.low=l.p.low/\p.high=l.p.high/\p.wide=l.p.wide/\p.rule=l.p.rule/\p.top=l.p.top/\p.least=l.p.least/\p.part=l.p.part/\n.x.q=l.x.q+(dD l)/\(↑n.x.R.length:Int)=(dB l)/\GtR (Gt.mk n.o n.x.W)=GtR (Gt.mk m (l.x.X l.p l.s l.b).W)/\DkR n.d=DkR l.D/\ae rcE n.x.R=ae rcE (gL l)/\aa 1 (iE p.months)=aa 1 (iE l.p.months)/\aa 1 (iE p.settle)=aa 1 (iE l.p.settle)/\aa 10 (xK p n)=aa 10 (fY l)/\ae xZ n.O=ae xZ l.O/\ae yN n.N=ae yN l.N/\eQ k n e a)/\∀(l:SdJ),k l->∃(m:SdJ),dh (sb p.code)/\dh p.tick/\dh p.low/\dh p.high/\dh p.wide/\dh p.rule/\dh p.top/\dh p.least/\dh p.part/\m.x.q=l.x.q/\(↑m.x.R.length:Int)=(↑l.x.R.length:Int)/\GtR (Gt.mk m.o m.x.W)=GtR (Gt.mk l.o l.x.W)/\DkR m.d=DkR l.d/\ae rcE m.x.R=ae rcE l.x.R/\dh (aa 1 (iE p.months))/\dh (aa 1 (iE p.settle))/\aa 10 (xK p m)=aa 10 (xK p l)/\∃(n:SdJ->Prop),((1:Nat)<=(7:Nat)/\∃(q:EoI),q.s=2/\bE q.b=[[D.v (.int .u8 114)],[D.v (.int .u8 117)],[D.v (.int .u8 98)],[D.v (.int .u8 98)],[D.v (.int .u8 105)],[D.v (.int .u8 115)],[D.v (.int .u8 104)]]/\sb q.p.code=sb p.code/\q.p.tick=p.tick/\q.p.low=p.low/\q.p.high=p.high/\q.p.wide=p.wide/\q.p.rule=p.rule/\q.p.top=p.top/\q.p.least=p.least/\q.p.part=p.part/\q.x.q=m.x.q/\(↑q.x.R.length:Int)=(↑m.x.R.length:Int)/\GtR (Gt.mk q.o q.x.W)=GtR (Gt.mk m.o m.x.W)/\DkR q.d=DkR m.d/\ae rcE q.x.R=ae rcE m.x.R/\aa 1 (iE q.p.months)=aa 1 (iE p.months)/\aa 1 (iE q.p.settle)=aa 1 (iE p.settle)/\aa 10 (vI q)=aa 10 (xK p m)/\(uW q)/\(∀(r:Mkt),(zR q.s q.b).snd≠0/\r.Rep q.p q.x.B q.x.U->∃(s:SdJ),sb p.code=sb q.p.code/\p.tick=q.p.tick/\p.low=q.p.low/\p.high=q.p.high/\p.wide=q.p.wide/\p.rule=q.p.rule/\p.top=q.p.top/\p.least=q.p.least/\p.part=q.p.part/\s.x.q=q.x.q/\(↑s.x.R.length:Int)=(↑q.x.R.length:Int)/\GtR (Gt.mk s.o s.x.W)=GtR (Gt.mk r q.x.W)/\DkR s.d=DkR q.d/\ae rcE s.x.R=ae rcE q.x.R/\aa 1 (iE p.months)=aa 1 (iE q.p.months)/\aa 1 (iE p.settle)=aa 1 (iE q.p.settle)/\aa 10 (xK p s)=aa 10 (vI q)/\ae xZ s.O=[xZ (q.s,Rep.mk 2 0 0 0 0 0 0 (zR q.s q.b).snd)]/\ae yN s.N=[]/\eH n s p l e a)/\∀(r:Mkt),(zR q.s q.b).snd=0/\r.Rep q.p (q.x.X q.p q.s q.b).B (q.x.X q.p q.s q.b).U->∃(s:SdJ),sb p.code=sb q.p.code/\p.tick=q.p.tick/\p.low=q.p.low/\p.high=q.p.high/\p.wide=q.p.wide/\p.rule=q.p.rule/\p.top=q.p.top/\p.least=q.p.least/\p.part=q.p.part/\s.x.q=q.x.q+(dD q)/\(↑s.x.R.length:Int)=(dB q)/\GtR (Gt.mk s.o s.x.W)=GtR (Gt.mk r (q.x.X q.p q.s q.b).W)/\DkR s.d=DkR q.D/\ae rcE s.x.R=ae rcE (gL q)/\aa 1 (iE p.months)=aa 1 (iE q.p.months)/\aa 1 (iE p.settle)=aa 1 (iE q.p.settle)/\aa 10 (xK p s)=aa 10 (fY q)/\ae xZ s.O=ae xZ q.O/\ae yN s.N=ae yN q.N/\eH n s p l e a)/\∀(q:SdJ),n q->∃(r:En),sb r.p.code=sb p.code/\r.p.tick=p.tick/\r.p.low=p.low/\r.p.high=p.high/\r.p.wide=p.wide/\r.p.rule=p.rule/\r.p.top=p.top/\r.p.least=p.least/\r.p.part=p.part/\r.q=q.x.q/\aa 10 (ae yG r.v)=aa 10 (xK p q)/\(vB r)/\∀(s:Unit),True->∃(t:ByteArray),dh ((1:Nat))/\bE (uD r.v r.q)=qB t/\∃(u:JaI),u.n=(↑q.x.R.length:Int)/\DkR u.d=DkR q.d/\(u.d.safe<=u.d.b.length/\u.d.b.length<=1048576)/\∀(v:Unit),True->∃(w:DnI),w.n=0/\DkR w.d=DkR (Dk.mk u.d.b u.d.b.length)/\(w.d.safe<=w.d.b.length/\w.d.b.length<=1048576)/\∀(x:Unit),True->∃(y:EpI),sb y.p.code=sb [(67:UInt8),(76:UInt8)]/\iE y.p.months=iE [(320:Int),(321:Int),(323:Int)]/\y.p.tick=5/\y.p.low=0/\y.p.high=1000/\y.p.wide=200/\y.p.rule=a/\y.p.top=4/\y.p.least=2/\y.p.part=40/\iE y.p.settle=iE [(500:Int),(505:Int),(490:Int)]/\DkR y.j.d=DkR (Dk.mk (af (w.d.keep w.n) w.d.b) (w.d.keep w.n))/\(uP y)/\∀(z:Mkt),z.Rep y.p (qS y.p y.L).B (qS y.p y.L).U->cnd ((↑(ae xZ l.O).length:Int)==1) (cnd ((↑(ae yN l.N).length:Int)==1) (((0:Int)<=(0:Int)/\0<(↑(ae yN l.N).length:Int))/\∃(a_1:Int),zE (ae yN l.N) (Int.toNat 0) 0 1=some [dI a_1]/\cnd (a_1==1) (cnd ((↑(ae xZ q.O).length:Int)==1) (cnd ((↑(ae yN q.N).length:Int)==0) (cnd ((↑(ae rcE q.x.R).length:Int)==1) (∃(a_2:En),sb a_2.p.code=sb y.p.code/\a_2.p.tick=y.p.tick/\a_2.p.low=y.p.low/\a_2.p.high=y.p.high/\a_2.p.wide=y.p.wide/\a_2.p.rule=y.p.rule/\a_2.p.top=y.p.top/\a_2.p.least=y.p.least/\a_2.p.part=y.p.part/\a_2.q=(qS y.p y.L).q/\aa 10 (ae yG a_2.v)=aa 10 (jT y)/\(vB a_2)/\∀(a_3:Unit),True->∃(a_4:ByteArray),dh ((1:Nat))/\bE (uD a_2.v a_2.q)=qB a_4/\cnd (a_4.toList==t.toList) (∃(a_5:Unit),true=(a_2.q==1)/\True) (∃(a_5:Unit),true=false/\True)) (∃(a_2:Unit),true=false/\True)) (∃(a_2:Unit),true=false/\True)) (∃(a_2:Unit),true=false/\True)) (∃(a_2:Unit),true=false/\True)) (∃(a_1:Unit),true=false/\True)) (∃(a_1:Unit),true=false/\True)
def yLd {t:TmI} (h:0<=t.i/\t.i<=1000000):1<=(xJ t).id/\(xJ t).id<=1099511627776:=by
 have:0<=zF t.c.id 0 30/\zF t.c.id 0 30<=30:=by rw[zF];omega
 rw[xJ];split
 ·dsimp only;omega
 ·simp only[y6];omega
def yEw {x:Prd} {c:Cmd} {k:Nat} (hk:k<=1000000):(xJ ⟨kprod x,c,k⟩).right=0:=by
 have:=z2i x c k (xJ ⟨kprod x,c,k⟩).id (yLd Z9);exact this
def yMi {c:Cmd} (h:c.right=0) (hl:c.label=[]):c.enc.length<=100:=by
 have e:c.enc=lob c.kind::(le c.id 8++c.tail):=by rw[Cmd.enc,y5t (by simp[h])]
 have ht:c.tail.length<=60:=by
  rw[Cmd.tail];split
  ·simp only[y5y,y5s,qM,zJt,hl,y6l,y7n];omega
  split
  ·rw[qM];omega
  split
  ·rw[y5s,qM,qM];omega
  ·exact y6z _
 rw[e,y5y,y5s,qM];omega
def yNd {i:ByI} (hp:∃x,i.p=kprod x) (hk:i.k<=1000000):i.r.length<=100:=by
 obtain⟨p,a,k⟩:=i;obtain⟨x,rfl⟩:=hp;rw[ByI.r];split
 ·rw[y6l];omega
 ·exact yMi (yEw hk) (zDc _)
def byt_ok:bytC.ok Tryz.prog 35:=okw (V:=y2n) mixed (gokc yOn (gokc zWy gok0)) 1 (λ_=>[]) (λ_=>[]) [] Tryz.func35 λ(i:ByI) h=>by
 obtain⟨p,a,k⟩:=i;obtain⟨⟨x,hp⟩,⟨a1,a2,a3,hc⟩,hk⟩:(∃x,p=kprod x)/\a.ok/\k<=1000000:=h;subst hp;unfold y2n;dsimp only;refine Cv.cnd.mk (λe=> ?_) (λe=> ?_)
 ·have er:ByI.r ⟨kprod x,a,k⟩=a.b.take 100:=by rw[ByI.r,y5v (by simpa using e)]
  rw[er,yQ];refine zH (λc=>⟨⟨Z8,oM⟩,(),by rw[sI];rfl,trivial⟩) (λc=>⟨(),?_,trivial⟩);rw[y6f (by omega)]
 ·have er:ByI.r ⟨kprod x,a,k⟩=(xJ ⟨kprod x,a.c,k⟩).enc:=by rw[ByI.r,y5t (by simpa using e)];rfl
  exact⟨⟨kprod x,a.c,k⟩,rF8 (rF8 (rF4 ⟨rfl,⟨nI x,zKj x,hc,Z9,Z9⟩,λ_ _=>⟨xJ ⟨kprod x,a.c,k⟩,rF8 ⟨rfl,⟨zDc _,yEw hk⟩,λ_ _=>⟨(),by rw[er],trivial⟩⟩⟩⟩))⟩
def kb24:Cmd:=⟨1,7,0,1,5,3,0,1,[]⟩
def yTb:List UInt8:=[114,117,98,98,105,115,104]
def yMa:(zR 2 kb24.enc).2=0:=by decide+kernel
def yLl:(zR 2 yTb).2=31:=by decide+kernel
def yVw:kb24.right=0:=by decide+kernel
def yWz:kb24.enc.length=37:=by decide+kernel
def yVv:((es0 (nB 1)).X (nB 1) 2 kb24.enc).O.length=1:=by decide+kernel
def yWx:((es0 (nB 1)).M (nB 1) 2 kb24.enc).length=1:=by decide+kernel
def y1b (b:List UInt8):(Dk.mk b b.length).keep 0=b.length:=by
 rw[Dk.keep];dsimp only;omega
def y0r {M:List VM} (h:M.length=1):∃m:eB,wT 0 M=[m]/\m.seq=1:=by
 obtain⟨v,rfl⟩:∃v,M=[v]:=List.length_eq_one_iff.1 h;exact⟨_,rfl,rfl⟩
def yWy (p:Prd) (b:List UInt8):qS p [vG 2 b]=(es0 p).ed p 2 b:=rfl
def yJt (p:Prd) (h:known24C.cnd p):zYi p:=by
 have h:p=nB 1:=h;obtain⟨b,hb⟩:∃b,kb24.enc=b:=⟨_,rfl⟩
 have hbl:b.length=37:=by rw[<- hb];exact yWz
 have hrd:(zR 2 b).2=0:=by rw[<- hb];exact yMa
 have hO1:((es0 p).X p 2 b).O.length=1:=by rw[<- hb,h];exact yVv
 have hM1:((es0 p).M p 2 b).length=1:=by rw[<- hb,h];exact yWx
 have hc:p.check=0:=by rw[h];exact zYs
 have hs:p.small:=by rw[h];exact zXj 1
 obtain⟨p1,p2,p3,p4,p5,p6,p7,p8,p9,p10,p11⟩:sb p.code=sb [67,76]/\iE p.months=iE [320,321,323]/\p.tick=5/\p.low=0/\p.high=1000/\p.wide=200/\p.rule=1/\p.top=4/\p.least=2/\p.part=40/\iE p.settle=iE [500,505,490]:=by
  rw[h];exact(rF7 (rF3 rfl))
 clear h;have hB0:BOk p (es0 p).B:=BOk.new hc hs;have hl44:(xI (vG 2 b)).length=44:=by rw[gY,vG,y5y,hbl]
 have hq1:((es0 p).ed p 2 b).q=1:=by
  show(0:Int)+(((es0 p).M p 2 b).length:Int)=1;rw[hM1];rfl
 obtain⟨m,hN,hm⟩:=y0r hM1;unfold zYi eQ eH lW xK vB uW uP jT vI dD dB gL fY dI;refine⟨1,rfl,trivial,λ_ _=>⟨(),trivial,λ_ _=>⟨⟨p,0,[],[]⟩,p1,p2,p3,p4,p5,p6,p7,p8,p9,p10,p11,rfl,⟨⟨hc,hs⟩,⟨⟨λl hl=>(by cases hl),rfl,y6q rfl⟩,y6p _,y6q rfl⟩,λr hr=>(by cases hr),y6q rfl⟩,λo ho=>⟨kb24,rF8 ⟨rfl,⟨rfl,yVw⟩,λ_ _=>⟨⟨es0 p,o,⟨[],0⟩,[],[]⟩,rF8 (rF8 ⟨rfl,λj=>j.o.Rep p ((es0 p).ed p 2 b).B ((es0 p).ed p 2 b).U/\j.x=(es0 p).ed p 2 b/\j.d=⟨xI (vG 2 b),0⟩/\j.O=((es0 p).X p 2 b).O/\j.N=[m],?_,?_⟩)⟩⟩⟩⟩⟩⟩
 ·exact⟨⟨o,es0 p,p,⟨[],0⟩,2,b⟩,rfl,by rw[hb],rF8 (rF8 ⟨rfl,⟨⟨ho,hB0⟩,Z9,⟨y6q rfl,y6q rfl⟩,⟨y9h _,y6q rfl⟩,y6q rfl,by dsimp only;rw[hbl];decide⟩,λo2 hb=>absurd hrd hb.1,λo2 hg=>⟨⟨(es0 p).ed p 2 b,o2,⟨xI (vG 2 b),0⟩,((es0 p).X p 2 b).O,[m]⟩,rF8 (rF6 (rF3 ⟨rfl,by rw[<- hN];rfl,⟨hg.2,rF3 rfl⟩,k0q⟩))⟩⟩)⟩
 rintro⟨x1,o1,d1,O1,N1⟩ ⟨hR1,rfl,rfl,rfl,rfl⟩;have hB1:BOk p ((es0 p).ed p 2 b).B:=zPz (ho.s.wf hB0) _ _ _ _;have hR:((es0 p).ed p 2 b).R.length=1:=rfl;have hall:=yWy p b;generalize (es0 p).ed p 2 b=x at*;refine⟨⟨x,o1,⟨xI (vG 2 b),0⟩,[],[]⟩,rfl,rfl,rfl,rfl,rfl,rfl,rfl,rfl,rfl,rfl,rfl,rfl,rfl,rfl,rfl,rfl,rfl,λj=>j.o.Rep p x.B x.U/\j.x=x/\j.d=⟨xI (vG 2 b),0⟩/\j.O.length=1/\j.N=[],?_,?_⟩
 ·exact⟨y6q rfl,⟨o1,x,p,⟨xI (vG 2 b),0⟩,2,yTb⟩,rF8 (rF7 (rF3 ⟨rfl,⟨⟨hR1,hB1⟩,y6q rfl,⟨y6q rfl,y6q rfl⟩,⟨Z9,Z9⟩,Z9,by dsimp only;rw[hl44];decide⟩,λo2 hb=>⟨⟨x,o2,⟨xI (vG 2 b),0⟩,[(2,⟨2,0,0,0,0,0,0,(zR 2 yTb).2⟩)],[]⟩,rF8 (rF7 (rF3 ⟨rfl,⟨hb.2,rF3 rfl⟩,k0q⟩))⟩,λo2 hg=>absurd hg.1 (by rw[yLl];decide)⟩))⟩
 rintro⟨x2,o2,d2,O2,N2⟩ ⟨hR2,rfl,rfl,hO2,rfl⟩;have hsm:=(mK (hR2.s.wf hB1)).2.2;have hrk:yDm (vG 2 b):=⟨by simp[vG],hrd⟩
 have hfs:fsB [vG 2 b]=xI (vG 2 b):=y6r _;refine⟨⟨p,y3 p x2.B,x2.q,x2.R⟩,rF7 (rF3 ⟨rfl,hsm,λ_ _=>⟨⟨(uD (y3 p x2.B) x2.q).toArray⟩,rfl,hJ _,⟨⟨xI (vG 2 b),0⟩,x2.R.length,[]⟩,rfl,rfl,⟨y6z _,Z9⟩,λ_ _=>⟨⟨⟨xI (vG 2 b),(xI (vG 2 b)).length⟩,0⟩,rfl,rfl,⟨y6p _,Z9⟩,λ_ _=>⟨⟨p,(xI (vG 2 b)).length,[vG 2 b],[]⟩,p1,p2,p3,p4,p5,p6,p7,p8,p9,p10,p11,?_,⟨⟨hc,hs⟩,⟨⟨λl hl=> ?_,rfl,?_⟩,?_,?_⟩,λr hr=> ?_,y6q rfl⟩,λo3 ho3=> ?_⟩⟩⟩⟩)⟩
 ·dsimp only;rw[y1b,y8s,EpI.j,JoI.d,hfs,y6r]
 ·rw[y7g]at hl;subst hl;rw[vG,y5y,hbl];decide
 ·dsimp only;rw[hfs,hl44];decide
 ·dsimp only;rw[hfs,y6r];exact y6p _
 ·dsimp only;rw[hfs,y6r,hl44];decide
 ·rw[y7g]at hr;subst hr;exact hrk
 dsimp only at ho3 ⊢;rw[hall]at ho3 ⊢;refine Cv.cnd.mk (λ_=>Cv.cnd.mk (λ_=>⟨⟨y6q rfl,y6q rfl⟩,m.seq,rfl,Cv.cnd.mk (λ_=>Cv.cnd.mk (λ_=>Cv.cnd.mk (λ_=>Cv.cnd.mk (λ_=>⟨⟨p,y3 p x2.B,x2.q,x2.R⟩,rF7 (rF3 ⟨rfl,hsm,λ_ _=>⟨⟨(uD (y3 p x2.B) x2.q).toArray⟩,rfl,hJ _,Cv.cnd.mk (λ_=>⟨(),?_,trivial⟩) (λe=>absurd e (by simp))⟩⟩)⟩) (λe=>absurd e (by simp[hR]))) (λe=>absurd e (by simp))) (λe=>absurd e (by simp[hO2]))) (λe=>absurd e (by simp[hm]))⟩) (λe=>absurd e (by simp))) (λe=>absurd e (by simp[hO1]));dsimp only;rw[hq1];rfl
def known24_ok:known24C.ok Tryz.prog 36:=okw mixed (gokc yDw (gokc dnew_ok (gokc eop_ok (gokc zWy (gokc edo_ok (gokc esn_ok (gokc jsyn_ok (gokc yOh gok0)))))))) 1 (λp=>yEu p) (λ_=>[]) [] Tryz.func36 yJt
def yIb (p:Prd) (B:List (List zI)) (U:List Int) (c:Cmd):∃r l,(doF p B U c).R=r::l/\(r.kind=2->(doF p B U c).B=B):=by
 rw[doF];split
 ·exact⟨_,_,rfl,λ_=>rfl⟩
 split
 ·rw[nN]
  iterate 5 (split;·exact⟨_,_,rfl,λ_=>rfl⟩)
  obtain⟨r,l,h1,h2,_⟩:=(zYx p B U c).2;exact⟨r,l,h1,λe=>by omega⟩
 split
 ·exact⟨_,_,rfl,λ_=>rfl⟩
 split
 ·rw[f8];split
  ·exact⟨_,_,rfl,λ_=>rfl⟩
  split
  ·rw[bP];exact⟨_,_,rfl,λe=>by simp at e⟩
  split
  ·exact⟨_,_,rfl,λ_=>rfl⟩
  rw[uU];exact⟨_,_,rfl,λe=>by simp at e⟩
 split
 ·rw[uU];exact⟨_,_,rfl,λe=>by simp at e⟩
 ·rw[bP];exact⟨_,_,rfl,λe=>by simp at e⟩
def z2q (p:Prd) (B:List (List zI)) (U:List Int) (W:List (Int×Int)) (s:Int) (b:List UInt8):∃o l,(rF p B U W s b).O=o::l/\(o.2.kind=2->(rF p B U W s b).B=B):=by
 rw[rF];split
 ·exact⟨_,_,rfl,λ_=>rfl⟩
 split
 ·exact⟨_,_,rfl,λ_=>rfl⟩
 rw[zSb];split
 ·exact⟨_,_,rfl,λ_=>rfl⟩
 split
 ·exact⟨_,_,rfl,λ_=>rfl⟩
 obtain⟨r,l,h1,h2⟩:=yIb p B U (xO b).1;dsimp only;rw[h1];dsimp only[rB];refine⟨_,_,rfl,λe=>h2 ?_⟩;exact e
def yKs (x:Es) (p:Prd) (s:Int) (b:List UInt8):∃o l,(x.X p s b).O=o::l/\(o.2.kind=2->x.M p s b=[]):=by
 obtain⟨o,l,h1,h2⟩:=z2q p x.B x.U x.W s b;refine⟨o,l,h1,λe=> ?_⟩;rw[Es.M,Es.X,h2 e];exact z7v 0 _
structure AnOk (p:Prd) (x:Es) (d:Dk) (j:SdJ):Prop where
 r:j.o.Rep p j.x.B j.x.U
 ok:BOk p j.x.B
 q1:x.q<=j.x.q
 q2:j.x.q<=x.q+202000000
 n:j.x.R.length<=x.R.length+1
 d:j.d.b.length<=d.b.length+107
 m:∃M:List VM,j.N=wT x.q M/\j.x.q=x.q+(M.length:Int)
 t:∃o l,j.O=o::l/\(o.2.kind=2->j.N=[])
def AnOk.bad {p:Prd} {x:Es} {d:Dk} {o:Mkt} (h1:o.Rep p x.B x.U) (h2:BOk p x.B) (s w:Int):AnOk p x d ⟨x,o,d,[(s,⟨2,0,0,0,0,0,0,w⟩)],[]⟩:=
 ⟨h1,h2,y9h _,Z9,Z9,Z9,⟨[],rfl,by simp⟩,⟨_,_,rfl,λ_=>rfl⟩⟩
def AnOk.good {p:Prd} {x:Es} {d:Dk} {o o2:Mkt} (h1:o.Rep p x.B x.U) (h2:BOk p x.B) {s:Int} {b:List UInt8} (hb:b.length<=100) (h3:o2.Rep p (x.X p s b).B (x.X p s b).U):
 AnOk p x d ⟨x.ed p s b,o2,⟨d.b++xI (vG s b),d.safe⟩,(x.X p s b).O,wT x.q (x.M p s b)⟩:=by
 obtain⟨t1,t2,t3,t4⟩:=z7a h1 h2 s b h3;refine⟨h3,t1,t2,t3,Z9,?_,⟨_,rfl,rfl⟩,?_⟩
 ·dsimp only;rw[y5s,gY,vG,y5y];omega
 ·obtain⟨o,l,e1,e2⟩:=yKs x p s b;exact⟨o,l,e1,λe=>by rw[e2 e];rfl⟩
def y5h {l:List EaM} {k:Nat} {a:EaM} (h:l[k]? =some a):zE (l.map eaE) k 1 1=some [D.v (.int .i64 a.s)]:=elA h (by simp[eaE,cmdE]) rfl
def yWr {l:List EaM} {k:Nat} {a:EaM} (h:l[k]? =some a):zE (l.map eaE) k 0 13=some [D.v (.int .i64 a.kind),D.v (.int .i64 a.s),D.v (.int .i64 a.n),D.v (.int .i64 a.c.kind),D.v (.int .i64 a.c.id),D.v (.int .i64 a.c.inst),D.v (.int .i64 a.c.side),D.v (.int .i64 a.c.price),D.v (.int .i64 a.c.qty),D.v (.int .i64 a.c.least),D.v (.int .i64 a.c.time),D.v (.string (sb a.c.label)),D.ro 1 (bE a.b)]:=elA h (by simp[eaE,cmdE]) rfl
def y5g {O:List (Int×Rep)} {k:Nat} {o:Int×Rep} (h:O[k]? =some o):zE (O.map xZ) k 0 9=some [D.v (.int .i64 o.1),.v (.int .i64 o.2.kind),.v (.int .i64 o.2.id),.v (.int .i64 o.2.inst),.v (.int .i64 o.2.side),.v (.int .i64 o.2.price),.v (.int .i64 o.2.qty),.v (.int .i64 o.2.left),.v (.int .i64 o.2.why)]:=elA h (by simp[xZ,xV]) rfl
def zTh (s:Int):∀(W:List (Int×Int)) (l:List Rep),(rB s W l).2.length=l.length
 |_,[]=>rfl
 |W,r::l=>by rw[rB];dsimp only;rw[y5y,zTh s _ l,y5y]
def yJy {p:Prd} {B:List (List zI)} (h:BWf p B) (U:List Int) (W:List (Int×Int)) (s:Int) (b:List UInt8):(rF p B U W s b).O.length<=1503000003:=by
 rw[rF];split
 ·exact y6q rfl
 split
 ·exact y6q rfl
 rw[zSb];split
 ·exact y6q rfl
 split
 ·exact y6q rfl
 dsimp only;rw[zTh];exact z8b h U _
def sameMC:Con:=con1 (List eB) (λM=>[roV 7 (M.map yN),roV 7 (M.map yN)]) (λ_=>[]) (λM=>M.length<=1099511627776) (λ_=>yR true) (λ_=>[])
def yUi:List SAnn:=[{ι:=Nat,slots:=λk=>[(5,zA k)],rows:=λ_=>[]}]
def clOwC:Con:=zWk 2
structure GcI where
 g:Gt
 p:Prd
 B:List (List zI)
 U:List Int
def gcpC:Con:=con1 GcI (λ_=>[.nm 0 0]) (λi=>[GtR i.g]) (λi=>i.g.m.Rep i.p i.B i.U/\BOk i.p i.B) (λ_=> .nm 1 0) (λi=>[GtR i.g,GtR i.g])
def y4t (k:Nat) (p:Prd) (x:Es) (o:Mkt) (d:Dk):List AObj:=[.cells [sV p.code,.own (k+5),zA p.tick,zA p.low,zA p.high,zA p.wide,zA p.rule,zA p.top,zA p.least,zA p.part,.own (k+6),.nm (k+1) 0,.nm (k+2) 0,.own (k+7),zA x.q,.own (k+4)] zIc,jnR (k+3) x.R.length,GtR ⟨o,x.W⟩,DkR d,rcR x.R,.fro 1 (iE p.months),.fro 1 (iE p.settle),zJo (y3 p x.B)]
structure TwJ where
 x:Es
 o:Mkt
 d:Dk
 o2:Mkt
 d2:Dk
 k:Nat
structure TkJ where
 O:List (Int×Rep)
 N:List eB
 O2:List (Int×Rep)
 N2:List eB
 m:Nat
def gJ (p:Prd) (e:Nat):SAnn:={ι:=SdJ,slots0:=λ_=>[(e,.nm 0 0)],rows0:=λj=>z4x p j.x j.o j.d,slots:=λ_=>[(e,.nm 0 0)],rows:=λj=>z4x p j.x j.o j.d}
def twA (i:SqI):List SAnn:=[
 {ι:=TwJ,slots:=λj=>[(5,.nm 8 0),(6,.nm 3 0),(7,.nm 14 0),(8,.nm 0 0),(10,.nm 11 0),(12,zA j.k)],rows:=λj=>z4x i.p j.x j.o j.d++y4z i.p++y4t 11 i.p j.x j.o2 j.d2},
 {ι:=TkJ,slots:=λj=>[(15,.nm 0 0),(16,.nm 3 0),(17,zA j.m)],rows:=λj=>[.cells [.own 1,.own 2] z2v,zUx j.O,.fro 7 (j.N.map yN),.cells [.own 4,.own 5] z2v,zUx j.O2,.fro 7 (j.N2.map yN)]}]
def twJ (i:SqI):List (Nat×SAnn):=[(32,bj 63),(48,doJ i.p 8 15),(54,gJ i.p 10),(72,doJ i.p 10 16)]
end Sx
