/- Texts of ours. No condition. -/
import Derived.Test.YthkofaanekmpmaaGreatR14
set_option linter.all false
open Sx.AObj renaming fro->aa,cells->ab,own->ac
open List renaming map->ae,take->af,drop->ag
open Go.IntKind renaming i64->aj
open Bool renaming false->ak,true->am
open Go.Value renaming string->ao
open Int renaming toNat->ap
open Go renaming TypeId->aq
open Option renaming some->ar
namespace Sx
set_option maxRecDepth 100000
open Go Cv Go.Proofs
def y2r (i:ByI):Prop:=
 cnd (i.a.kind==2) (cnd (decide ((↑(bE i.a.b).length:Int)>100)) (((0:Int)<=(100:Int)/\100<=(↑(bE i.a.b).length:Int))/\∃(a:Unit),bE i.r=af (ap 100) (bE i.a.b)/\True) (∃(a:Unit),bE i.r=bE i.a.b/\True)) (∃(a:TmI),sb a.p.code=sb i.p.code/\iE a.p.months=iE i.p.months/\a.p.tick=i.p.tick/\a.p.low=i.p.low/\a.p.high=i.p.high/\a.p.wide=i.p.wide/\a.p.rule=i.p.rule/\a.p.top=i.p.top/\a.p.least=i.p.least/\a.p.part=i.p.part/\iE a.p.settle=iE i.p.settle/\a.c.kind=i.a.c.kind/\a.c.id=i.a.c.id/\a.c.inst=i.a.c.inst/\a.c.side=i.a.c.side/\a.c.price=i.a.c.price/\a.c.qty=i.a.c.qty/\a.c.least=i.a.c.least/\a.c.time=i.a.c.time/\sb a.c.label=sb i.a.c.label/\a.i=(↑i.k:Int)/\(a.p.check=0/\(a.p.code.length<=1099511627776/\a.p.months.length<=1099511627776/\a.p.settle.length<=1099511627776)/\(((-9223372036854775808)<=a.c.kind/\a.c.kind<=9223372036854775807)/\((-9223372036854775808)<=a.c.id/\a.c.id<=9223372036854775807)/\((-9223372036854775808)<=a.c.inst/\a.c.inst<=9223372036854775807)/\((-9223372036854775808)<=a.c.side/\a.c.side<=9223372036854775807)/\((-9223372036854775808)<=a.c.price/\a.c.price<=9223372036854775807)/\((-9223372036854775808)<=a.c.qty/\a.c.qty<=9223372036854775807)/\((-9223372036854775808)<=a.c.least/\a.c.least<=9223372036854775807)/\(-9223372036854775808)<=a.c.time/\a.c.time<=9223372036854775807)/\0<=a.i/\a.i<=1000000)/\∀(b:Unit),True->∃(c:Cmd),c.kind=(xH a).kind/\c.id=(xH a).id/\c.inst=(xH a).inst/\c.side=(xH a).side/\c.price=(xH a).price/\c.qty=(xH a).qty/\c.least=(xH a).least/\c.time=(xH a).time/\sb c.label=sb (xH a).label/\(c.label=[]/\c.right=0)/\∀(d:Unit),True->∃(e:Unit),bE i.r=bE c.enc/\True)
def xK (a:Prd) (b:SdJ):=(ae yI (y6 a b.x.B))
def lO (a:EpI) (b:Int):Prop:=aa 1 (iE a.p.months)=aa 1 (iE a.p.months)/\dh (aa 1 (iE a.p.settle))/\dh (aa 10 (v8 a))/\dh (aa 1 (iE [(500:Int),(505:Int),(490:Int)]))/\dh (aa 1 (iE [(320:Int),(321:Int),(323:Int)]))/\dh (ab [V.d (D.v (ao (sb [(67:UInt8),(76:UInt8)]))),V.own 1,V.d (dI 5),V.d (dI 0),V.d (dI 1000),V.d (dI 200),V.d (dI b),V.d (dI 4),V.d (dI 2),V.d (dI 40),V.own 2] 25)
def lF (a:SdJ->Prop) (b:SdJ) (c:Prd) (d:SdJ) (e:EpI) (f:Int):Prop:=a b/\dh (aa 1 (iE c.months))/\dh (aa 1 (iE c.settle))/\dh (aa 10 (xK c d))/\dh (ab [V.own (none.getD (0+((0:Nat)-(0:Nat))+(1:Nat)+(1:Nat)+1+((1:Nat)-(0:Nat))+((8:Nat)-(1:Nat))+((0:Nat)-(0:Nat))+nat_lit 9)),V.own (none.getD (0+((0:Nat)-(0:Nat))+(1:Nat)+(1:Nat)+1+((1:Nat)-(0:Nat))+((8:Nat)-(1:Nat))+((0:Nat)-(0:Nat))+nat_lit 10))] yCp)/\dh (ac z3z 9 (ae qA d.O))/\dh (ac zVa 7 (ae xG d.N))/\lO e f
def lE (a:SdJ->Prop) (b:SdJ) (c:EpI) (d:Int):Prop:=a b/\lO c d
def fW (a:EpI):Prop:=(a.p.check=0/\a.p.code.length<=1099511627776/\a.p.months.length<=1099511627776/\a.p.settle.length<=1099511627776)/\(((∀(b:List UInt8),b∈a.L->b.length<=255)/\(zCm a.t).snd.snd=10/\(fsB a.L).length+a.t.length<=1048576)/\a.s<=(fsB a.L++a.t).length/\(fsB a.L++a.t).length<=1048576)/\(∀(b:List UInt8),b∈a.L->b≠[]/\(zS (↑(b.headD (0:UInt8)).toNat:Int) b.tail).snd=0)/\a.L.length<=100000
def fQ (a:EoI):Prop:=(a.o.Rep a.p a.x.B a.x.U/\BOk a.p a.x.B)/\a.b.length<=254/\((-1)<=a.s/\a.s<8)/\(0<=a.x.q/\a.x.q<=1000000000000000000)/\a.x.R.length<=1000000/\a.d.b.length+a.b.length+(7:Nat)<=(1048576:Nat)
def sS (a:En):Prop:=List.length a.v<=1099511627776/\∀(b:Sd×Sd),b∈a.v->b.fst.levels.length<=1099511627776/\b.snd.levels.length<=1099511627776
def zXw (p:Prd):Prop:=
 ∃(a:Int),a=1/\True/\∀(b:Unit),True->∃(c:Unit),True/\∀(d:Unit),True->∃(e:EpI),sb e.p.code=sb [(67:UInt8),(76:UInt8)]/\iE e.p.months=iE [(320:Int),(321:Int),(323:Int)]/\e.p.tick=5/\e.p.low=0/\e.p.high=1000/\e.p.wide=200/\e.p.rule=a/\e.p.top=4/\e.p.least=2/\e.p.part=40/\iE e.p.settle=iE [(500:Int),(505:Int),(490:Int)]/\DkR e.j.d=DkR (Dk.mk [] 0)/\(fW e)/\∀(f:Mkt),f.Rep e.p (jA e.p e.L).B (jA e.p e.L).U->∃(g:Cmd),g.kind=1/\g.id=7/\g.inst=0/\g.side=1/\g.price=5/\g.qty=3/\g.least=0/\g.time=1/\sb g.label=ByteArray.mk #[]/\(g.label=[]/\g.right=0)/\∀(h:Unit),True->∃(j:SdJ),sb p.code=sb e.p.code/\p.tick=e.p.tick/\p.low=e.p.low/\p.high=e.p.high/\p.wide=e.p.wide/\p.rule=e.p.rule/\p.top=e.p.top/\p.least=e.p.least/\p.part=e.p.part/\j.x.q=(jA e.p e.L).q/\(↑j.x.R.length:Int)=(↑e.L.length:Int)/\GtR (Gt.mk j.o j.x.W)=GtR (Gt.mk f (jA e.p e.L).W)/\DkR j.d=DkR e.j.d'/\ae rcE j.x.R=ae rcE (jA e.p e.L).R/\aa 1 (iE p.months)=aa 1 (iE e.p.months)/\aa 1 (iE p.settle)=aa 1 (iE e.p.settle)/\aa 10 (xK p j)=aa 10 (v8 e)/\∃(k:SdJ->Prop),(∃(l:EoI),l.s=2/\bE l.b=bE g.enc/\sb l.p.code=sb p.code/\l.p.tick=p.tick/\l.p.low=p.low/\l.p.high=p.high/\l.p.wide=p.wide/\l.p.rule=p.rule/\l.p.top=p.top/\l.p.least=p.least/\l.p.part=p.part/\l.x.q=j.x.q/\(↑l.x.R.length:Int)=(↑j.x.R.length:Int)/\GtR (Gt.mk l.o l.x.W)=GtR (Gt.mk j.o j.x.W)/\DkR l.d=DkR j.d/\ae rcE l.x.R=ae rcE j.x.R/\aa 1 (iE l.p.months)=aa 1 (iE p.months)/\aa 1 (iE l.p.settle)=aa 1 (iE p.settle)/\aa 10 (gB l)=aa 10 (xK p j)/\(fQ l)/\(∀(m:Mkt),(zS l.s l.b).snd≠0/\m.Rep l.p l.x.B l.x.U->∃(n:SdJ),sb p.code=sb l.p.code/\p.tick=l.p.tick/\p.low=l.p.low/\p.high=l.p.high/\p.wide=l.p.wide/\p.rule=l.p.rule/\p.top=l.p.top/\p.least=l.p.least/\p.part=l.p.part/\n.x.q=l.x.q/\(↑n.x.R.length:Int)=(↑l.x.R.length:Int)/\GtR (Gt.mk n.o n.x.W)=GtR (Gt.mk m l.x.W)/\DkR n.d=DkR l.d/\ae rcE n.x.R=ae rcE l.x.R/\aa 1 (iE p.months)=aa 1 (iE l.p.months)/\aa 1 (iE p.settle)=aa 1 (iE l.p.settle)/\aa 10 (xK p n)=aa 10 (gB l)/\ae qA n.O=[qA (l.s,Rep.mk 2 0 0 0 0 0 0 (zS l.s l.b).snd)]/\ae xG n.N=[]/\lE k n e a)/\∀(m:Mkt),(zS l.s l.b).snd=0/\m.Rep l.p (l.x.X l.p l.s l.b).B (l.x.X l.p l.s l.b).U->∃(n:SdJ),sb p.code=sb l.p.code/\p.tick=l.p.tick/\p.low=l.p.low/\p.high=l.p.high/\p.wide=l.p.wide/\p.rule=l.p.rule/\p.top=l.p.top/\p.least=l.p.least/\p.part=l.p.part/\n.x.q=l.x.q+(cR l)/\(↑n.x.R.length:Int)=(cQ l)/\GtR (Gt.mk n.o n.x.W)=GtR (Gt.mk m (l.x.X l.p l.s l.b).W)/\DkR n.d=DkR l.D/\ae rcE n.x.R=ae rcE (l.x.R++[jO l.s l.b])/\aa 1 (iE p.months)=aa 1 (iE l.p.months)/\aa 1 (iE p.settle)=aa 1 (iE l.p.settle)/\aa 10 (xK p n)=aa 10 (cP l)/\ae qA n.O=ae qA l.O/\ae xG n.N=ae xG l.N/\lE k n e a)/\∀(l:SdJ),k l->∃(m:SdJ),dh (sb p.code)/\dh p.tick/\dh p.low/\dh p.high/\dh p.wide/\dh p.rule/\dh p.top/\dh p.least/\dh p.part/\m.x.q=l.x.q/\(↑m.x.R.length:Int)=(↑l.x.R.length:Int)/\GtR (Gt.mk m.o m.x.W)=GtR (Gt.mk l.o l.x.W)/\DkR m.d=DkR l.d/\ae rcE m.x.R=ae rcE l.x.R/\dh (aa 1 (iE p.months))/\dh (aa 1 (iE p.settle))/\aa 10 (xK p m)=aa 10 (xK p l)/\∃(n:SdJ->Prop),((1:Nat)<=(7:Nat)/\∃(q:EoI),q.s=2/\bE q.b=[[D.v (.int .u8 114)],[D.v (.int .u8 117)],[D.v (.int .u8 98)],[D.v (.int .u8 98)],[D.v (.int .u8 105)],[D.v (.int .u8 115)],[D.v (.int .u8 104)]]/\sb q.p.code=sb p.code/\q.p.tick=p.tick/\q.p.low=p.low/\q.p.high=p.high/\q.p.wide=p.wide/\q.p.rule=p.rule/\q.p.top=p.top/\q.p.least=p.least/\q.p.part=p.part/\q.x.q=m.x.q/\(↑q.x.R.length:Int)=(↑m.x.R.length:Int)/\GtR (Gt.mk q.o q.x.W)=GtR (Gt.mk m.o m.x.W)/\DkR q.d=DkR m.d/\ae rcE q.x.R=ae rcE m.x.R/\aa 1 (iE q.p.months)=aa 1 (iE p.months)/\aa 1 (iE q.p.settle)=aa 1 (iE p.settle)/\aa 10 (gB q)=aa 10 (xK p m)/\(fQ q)/\(∀(r:Mkt),(zS q.s q.b).snd≠0/\r.Rep q.p q.x.B q.x.U->∃(s:SdJ),sb p.code=sb q.p.code/\p.tick=q.p.tick/\p.low=q.p.low/\p.high=q.p.high/\p.wide=q.p.wide/\p.rule=q.p.rule/\p.top=q.p.top/\p.least=q.p.least/\p.part=q.p.part/\s.x.q=q.x.q/\(↑s.x.R.length:Int)=(↑q.x.R.length:Int)/\GtR (Gt.mk s.o s.x.W)=GtR (Gt.mk r q.x.W)/\DkR s.d=DkR q.d/\ae rcE s.x.R=ae rcE q.x.R/\aa 1 (iE p.months)=aa 1 (iE q.p.months)/\aa 1 (iE p.settle)=aa 1 (iE q.p.settle)/\aa 10 (xK p s)=aa 10 (gB q)/\ae qA s.O=[qA (q.s,Rep.mk 2 0 0 0 0 0 0 (zS q.s q.b).snd)]/\ae xG s.N=[]/\lF n s p l e a)/\∀(r:Mkt),(zS q.s q.b).snd=0/\r.Rep q.p (q.x.X q.p q.s q.b).B (q.x.X q.p q.s q.b).U->∃(s:SdJ),sb p.code=sb q.p.code/\p.tick=q.p.tick/\p.low=q.p.low/\p.high=q.p.high/\p.wide=q.p.wide/\p.rule=q.p.rule/\p.top=q.p.top/\p.least=q.p.least/\p.part=q.p.part/\s.x.q=q.x.q+(cR q)/\(↑s.x.R.length:Int)=(cQ q)/\GtR (Gt.mk s.o s.x.W)=GtR (Gt.mk r (q.x.X q.p q.s q.b).W)/\DkR s.d=DkR q.D/\ae rcE s.x.R=ae rcE (q.x.R++[jO q.s q.b])/\aa 1 (iE p.months)=aa 1 (iE q.p.months)/\aa 1 (iE p.settle)=aa 1 (iE q.p.settle)/\aa 10 (xK p s)=aa 10 (cP q)/\ae qA s.O=ae qA q.O/\ae xG s.N=ae xG q.N/\lF n s p l e a)/\∀(q:SdJ),n q->∃(r:En),sb r.p.code=sb p.code/\r.p.tick=p.tick/\r.p.low=p.low/\r.p.high=p.high/\r.p.wide=p.wide/\r.p.rule=p.rule/\r.p.top=p.top/\r.p.least=p.least/\r.p.part=p.part/\r.q=q.x.q/\aa 10 (ae yI r.v)=aa 10 (xK p q)/\(sS r)/\∀(s:Unit),True->∃(t:ByteArray),dh ((1:Nat))/\bE (cW r.v r.q)=qY t/\∃(u:JaI),u.n=(↑q.x.R.length:Int)/\DkR u.d=DkR q.d/\(u.d.safe<=u.d.b.length/\u.d.b.length<=1048576)/\∀(v:Unit),True->∃(w:DnI),w.n=0/\DkR w.d=DkR (Dk.mk u.d.b u.d.b.length)/\(w.d.safe<=w.d.b.length/\w.d.b.length<=1048576)/\∀(x:Unit),True->∃(y:EpI),sb y.p.code=sb [(67:UInt8),(76:UInt8)]/\iE y.p.months=iE [(320:Int),(321:Int),(323:Int)]/\y.p.tick=5/\y.p.low=0/\y.p.high=1000/\y.p.wide=200/\y.p.rule=a/\y.p.top=4/\y.p.least=2/\y.p.part=40/\iE y.p.settle=iE [(500:Int),(505:Int),(490:Int)]/\DkR y.j.d=DkR (Dk.mk (af (w.d.keep w.n) w.d.b) (w.d.keep w.n))/\(fW y)/\∀(z:Mkt),z.Rep y.p (jA y.p y.L).B (jA y.p y.L).U->cnd ((↑(ae qA l.O).length:Int)==1) (cnd ((↑(ae xG l.N).length:Int)==1) (((0:Int)<=(0:Int)/\0<(↑(ae xG l.N).length:Int))/\∃(a_1:Int),zE (ae xG l.N) (ap 0) 0 1=ar [dI a_1]/\cnd (a_1==1) (cnd ((↑(ae qA q.O).length:Int)==1) (cnd ((↑(ae xG q.N).length:Int)==0) (cnd ((↑(ae rcE q.x.R).length:Int)==1) (∃(a_2:En),sb a_2.p.code=sb y.p.code/\a_2.p.tick=y.p.tick/\a_2.p.low=y.p.low/\a_2.p.high=y.p.high/\a_2.p.wide=y.p.wide/\a_2.p.rule=y.p.rule/\a_2.p.top=y.p.top/\a_2.p.least=y.p.least/\a_2.p.part=y.p.part/\a_2.q=(jA y.p y.L).q/\aa 10 (ae yI a_2.v)=aa 10 (v8 y)/\(sS a_2)/\∀(a_3:Unit),True->∃(a_4:ByteArray),dh ((1:Nat))/\bE (cW a_2.v a_2.q)=qY a_4/\cnd (a_4.toList==t.toList) (∃(a_5:Unit),am=(a_2.q==1)/\True) (∃(a_5:Unit),am=ak/\True)) (∃(a_2:Unit),am=ak/\True)) (∃(a_2:Unit),am=ak/\True)) (∃(a_2:Unit),am=ak/\True)) (∃(a_2:Unit),am=ak/\True)) (∃(a_1:Unit),am=ak/\True)) (∃(a_1:Unit),am=ak/\True)
def yOz {t:TmI} (h:0<=t.i/\t.i<=1000000):1<=(xH t).id/\(xH t).id<=1099511627776:=by
 have:0<=zF t.c.id 0 30/\zF t.c.id 0 30<=30:=by rw[zF];omega
 rw[xH];split
 ·dsimp only;omega
 ·simp only[y4];omega
def yJm {x:Prd} {c:Cmd} {k:Nat} (hk:k<=1000000):(xH ⟨kprod x,c,k⟩).right=0:=by
 have:=z3p x c k (xH ⟨kprod x,c,k⟩).id (yOz Z9);exact this
def yMp {c:Cmd} (h:c.right=0) (hl:c.label=[]):c.enc.length<=100:=by
 have e:c.enc=lob c.kind::(le c.id 8++c.tail):=by rw[Cmd.enc,y5e (by simp[h])]
 have ht:c.tail.length<=60:=by
  rw[Cmd.tail];split
  ·simp only[y5j,y5d,qH,zKo,hl,y5w,y6y];omega
  split
  ·rw[qH];omega
  split
  ·rw[y5d,qH,qH];omega
  ·exact y6l _
 rw[e,y5j,y5d,qH];omega
def yNl {i:ByI} (hp:∃x,i.p=kprod x) (hk:i.k<=1000000):i.r.length<=100:=by
 obtain⟨p,a,k⟩:=i;obtain⟨x,rfl⟩:=hp;rw[ByI.r];split
 ·rw[y5w];omega
 ·exact yMp (yJm hk) (zDf _)
def byt_ok:bytC.ok Tryz.prog 35:=okw (V:=y2r) mixed (gokc yNn (gokc zZg gok0)) 1 (λ_=>[]) (λ_=>[]) [] Tryz.func35 λ(i:ByI) h=>by
 obtain⟨p,a,k⟩:=i;obtain⟨⟨x,hp⟩,⟨a1,a2,a3,hc⟩,hk⟩:(∃x,p=kprod x)/\a.ok/\k<=1000000:=h;subst hp;unfold y2r;dsimp only;refine Cv.cnd.mk (λe=> ?_) (λe=> ?_)
 ·have er:ByI.r ⟨kprod x,a,k⟩=a.b.take 100:=by rw[ByI.r,y5g (by simpa using e)]
  rw[er,yK];refine zH (λc=>⟨⟨Z8,oM⟩,(),by rw[rY];rfl,trivial⟩) (λc=>⟨(),?_,trivial⟩);rw[y5q (by omega)]
 ·have er:ByI.r ⟨kprod x,a,k⟩=(xH ⟨kprod x,a.c,k⟩).enc:=by rw[ByI.r,y5e (by simpa using e)];rfl
  exact⟨⟨kprod x,a.c,k⟩,rF8 (rF8 (rF4 ⟨rfl,⟨mP x,zJt x,hc,Z9,Z9⟩,λ_ _=>⟨xH ⟨kprod x,a.c,k⟩,rF8 ⟨rfl,⟨zDf _,yJm hk⟩,λ_ _=>⟨(),by rw[er],trivial⟩⟩⟩⟩))⟩
def kb24:Cmd:=⟨1,7,0,1,5,3,0,1,[]⟩
def ySj:List UInt8:=[114,117,98,98,105,115,104]
def yNu:(zS 2 kb24.enc).2=0:=by decide+kernel
def yMd:(zS 2 ySj).2=31:=by decide+kernel
def yWo:kb24.right=0:=by decide+kernel
def ySy:kb24.enc.length=37:=by decide+kernel
def yTu:((es0 (mT 1)).X (mT 1) 2 kb24.enc).O.length=1:=by decide+kernel
def yTl:((es0 (mT 1)).M (mT 1) 2 kb24.enc).length=1:=by decide+kernel
def yYo (b:List UInt8):(Dk.mk b b.length).keep 0=b.length:=by
 rw[Dk.keep];dsimp only;omega
def y0i {M:List VM} (h:M.length=1):∃m:zQq,wZ 0 M=[m]/\m.seq=1:=by
 obtain⟨v,rfl⟩:∃v,M=[v]:=List.length_eq_one_iff.1 h;exact⟨_,rfl,rfl⟩
def yVf (p:Prd) (b:List UInt8):jA p [jO 2 b]=(es0 p).ed p 2 b:=rfl
def yFx (p:Prd) (h:known24C.cnd p):zXw p:=by
 have h:p=mT 1:=h;obtain⟨b,hb⟩:∃b,kb24.enc=b:=⟨_,rfl⟩
 have hbl:b.length=37:=by rw[<- hb];exact ySy
 have hrd:(zS 2 b).2=0:=by rw[<- hb];exact yNu
 have hO1:((es0 p).X p 2 b).O.length=1:=by rw[<- hb,h];exact yTu
 have hM1:((es0 p).M p 2 b).length=1:=by rw[<- hb,h];exact yTl
 have hc:p.check=0:=by rw[h];exact z0z
 have hs:p.small:=by rw[h];exact zYt 1
 obtain⟨p1,p2,p3,p4,p5,p6,p7,p8,p9,p10,p11⟩:sb p.code=sb [67,76]/\iE p.months=iE [320,321,323]/\p.tick=5/\p.low=0/\p.high=1000/\p.wide=200/\p.rule=1/\p.top=4/\p.least=2/\p.part=40/\iE p.settle=iE [500,505,490]:=by
  rw[h];exact(rF7 (rF3 rfl))
 clear h;have hB0:BOk p (es0 p).B:=BOk.new hc hs;have hl44:(xJ (jO 2 b)).length=44:=by rw[gH,jO,y5j,hbl]
 have hq1:((es0 p).ed p 2 b).q=1:=by
  show(0:Int)+(((es0 p).M p 2 b).length:Int)=1;rw[hM1];rfl
 obtain⟨m,hN,hm⟩:=y0i hM1;unfold zXw lE lF lO xK sS fQ fW v8 gB cR cQ cP dI;refine⟨1,rfl,trivial,λ_ _=>⟨(),trivial,λ_ _=>⟨⟨p,0,[],[]⟩,p1,p2,p3,p4,p5,p6,p7,p8,p9,p10,p11,rfl,⟨⟨hc,hs⟩,⟨⟨λl hl=>(by cases hl),rfl,y6d rfl⟩,y6a _,y6d rfl⟩,λr hr=>(by cases hr),y6d rfl⟩,λo ho=>⟨kb24,rF8 ⟨rfl,⟨rfl,yWo⟩,λ_ _=>⟨⟨es0 p,o,⟨[],0⟩,[],[]⟩,rF8 (rF8 ⟨rfl,λj=>j.o.Rep p ((es0 p).ed p 2 b).B ((es0 p).ed p 2 b).U/\j.x=(es0 p).ed p 2 b/\j.d=⟨xJ (jO 2 b),0⟩/\j.O=((es0 p).X p 2 b).O/\j.N=[m],?_,?_⟩)⟩⟩⟩⟩⟩⟩
 ·exact⟨⟨o,es0 p,p,⟨[],0⟩,2,b⟩,rfl,by rw[hb],rF8 (rF8 ⟨rfl,⟨⟨ho,hB0⟩,Z9,⟨y6d rfl,y6d rfl⟩,⟨y8s _,y6d rfl⟩,y6d rfl,by dsimp only;rw[hbl];decide⟩,λo2 hb=>absurd hrd hb.1,λo2 hg=>⟨⟨(es0 p).ed p 2 b,o2,⟨xJ (jO 2 b),0⟩,((es0 p).X p 2 b).O,[m]⟩,rF8 (rF6 (rF3 ⟨rfl,by rw[<- hN];rfl,⟨hg.2,rF3 rfl⟩,k0q⟩))⟩⟩)⟩
 rintro⟨x1,o1,d1,O1,N1⟩ ⟨hR1,rfl,rfl,rfl,rfl⟩;have hB1:BOk p ((es0 p).ed p 2 b).B:=zNw (ho.s.wf hB0) _ _ _ _;have hR:((es0 p).ed p 2 b).R.length=1:=rfl;have hall:=yVf p b;generalize (es0 p).ed p 2 b=x at*;refine⟨⟨x,o1,⟨xJ (jO 2 b),0⟩,[],[]⟩,rfl,rfl,rfl,rfl,rfl,rfl,rfl,rfl,rfl,rfl,rfl,rfl,rfl,rfl,rfl,rfl,rfl,λj=>j.o.Rep p x.B x.U/\j.x=x/\j.d=⟨xJ (jO 2 b),0⟩/\j.O.length=1/\j.N=[],?_,?_⟩
 ·exact⟨y6d rfl,⟨o1,x,p,⟨xJ (jO 2 b),0⟩,2,ySj⟩,rF8 (rF7 (rF3 ⟨rfl,⟨⟨hR1,hB1⟩,y6d rfl,⟨y6d rfl,y6d rfl⟩,⟨Z9,Z9⟩,Z9,by dsimp only;rw[hl44];decide⟩,λo2 hb=>⟨⟨x,o2,⟨xJ (jO 2 b),0⟩,[(2,⟨2,0,0,0,0,0,0,(zS 2 ySj).2⟩)],[]⟩,rF8 (rF7 (rF3 ⟨rfl,⟨hb.2,rF3 rfl⟩,k0q⟩))⟩,λo2 hg=>absurd hg.1 (by rw[yMd];decide)⟩))⟩
 rintro⟨x2,o2,d2,O2,N2⟩ ⟨hR2,rfl,rfl,hO2,rfl⟩;have hsm:=(rV (hR2.s.wf hB1)).2.2;have hrk:yGa (jO 2 b):=⟨by simp[jO],hrd⟩
 have hfs:fsB [jO 2 b]=xJ (jO 2 b):=y6b _;refine⟨⟨p,y6 p x2.B,x2.q,x2.R⟩,rF7 (rF3 ⟨rfl,hsm,λ_ _=>⟨⟨(cW (y6 p x2.B) x2.q).toArray⟩,rfl,nI _,⟨⟨xJ (jO 2 b),0⟩,x2.R.length,[]⟩,rfl,rfl,⟨y6l _,Z9⟩,λ_ _=>⟨⟨⟨xJ (jO 2 b),(xJ (jO 2 b)).length⟩,0⟩,rfl,rfl,⟨y6a _,Z9⟩,λ_ _=>⟨⟨p,(xJ (jO 2 b)).length,[jO 2 b],[]⟩,p1,p2,p3,p4,p5,p6,p7,p8,p9,p10,p11,?_,⟨⟨hc,hs⟩,⟨⟨λl hl=> ?_,rfl,?_⟩,?_,?_⟩,λr hr=> ?_,y6d rfl⟩,λo3 ho3=> ?_⟩⟩⟩⟩)⟩
 ·dsimp only;rw[yYo,y8d,EpI.j,JoI.d,hfs,y6b]
 ·rw[y6r]at hl;subst hl;rw[jO,y5j,hbl];decide
 ·dsimp only;rw[hfs,hl44];decide
 ·dsimp only;rw[hfs,y6b];exact y6a _
 ·dsimp only;rw[hfs,y6b,hl44];decide
 ·rw[y6r]at hr;subst hr;exact hrk
 dsimp only at ho3 ⊢;rw[hall]at ho3 ⊢;refine Cv.cnd.mk (λ_=>Cv.cnd.mk (λ_=>⟨⟨y6d rfl,y6d rfl⟩,m.seq,rfl,Cv.cnd.mk (λ_=>Cv.cnd.mk (λ_=>Cv.cnd.mk (λ_=>Cv.cnd.mk (λ_=>⟨⟨p,y6 p x2.B,x2.q,x2.R⟩,rF7 (rF3 ⟨rfl,hsm,λ_ _=>⟨⟨(cW (y6 p x2.B) x2.q).toArray⟩,rfl,nI _,Cv.cnd.mk (λ_=>⟨(),?_,trivial⟩) (λe=>absurd e (by simp))⟩⟩)⟩) (λe=>absurd e (by simp[hR]))) (λe=>absurd e (by simp))) (λe=>absurd e (by simp[hO2]))) (λe=>absurd e (by simp[hm]))⟩) (λe=>absurd e (by simp))) (λe=>absurd e (by simp[hO1]));dsimp only;rw[hq1];rfl
def known24_ok:known24C.ok Tryz.prog 36:=okw mixed (gokc yKq (gokc dnew_ok (gokc eop_ok (gokc zZg (gokc edo_ok (gokc yXc (gokc yLt (gokc yNj gok0)))))))) 1 (λp=>yDy p) (λ_=>[]) [] Tryz.func36 yFx
def yKk (p:Prd) (B:List (List zI)) (U:List Int) (c:Cmd):∃r l,(doF p B U c).R=r::l/\(r.kind=2->(doF p B U c).B=B):=by
 rw[doF];split
 ·exact⟨_,_,rfl,λ_=>rfl⟩
 split
 ·rw[nC]
  iterate 5 (split;·exact⟨_,_,rfl,λ_=>rfl⟩)
  obtain⟨r,l,h1,h2,_⟩:=(z0s p B U c).2;exact⟨r,l,h1,λe=>by omega⟩
 split
 ·exact⟨_,_,rfl,λ_=>rfl⟩
 split
 ·rw[fY];split
  ·exact⟨_,_,rfl,λ_=>rfl⟩
  split
  ·rw[bF];exact⟨_,_,rfl,λe=>by simp at e⟩
  split
  ·exact⟨_,_,rfl,λ_=>rfl⟩
  rw[uS];exact⟨_,_,rfl,λe=>by simp at e⟩
 split
 ·rw[uS];exact⟨_,_,rfl,λe=>by simp at e⟩
 ·rw[bF];exact⟨_,_,rfl,λe=>by simp at e⟩
def z3k (p:Prd) (B:List (List zI)) (U:List Int) (W:List (Int×Int)) (s:Int) (b:List UInt8):∃o l,(pA p B U W s b).O=o::l/\(o.2.kind=2->(pA p B U W s b).B=B):=by
 rw[pA];split
 ·exact⟨_,_,rfl,λ_=>rfl⟩
 split
 ·exact⟨_,_,rfl,λ_=>rfl⟩
 rw[zTc];split
 ·exact⟨_,_,rfl,λ_=>rfl⟩
 split
 ·exact⟨_,_,rfl,λ_=>rfl⟩
 obtain⟨r,l,h1,h2⟩:=yKk p B U (xN b).1;dsimp only;rw[h1];dsimp only[nO];refine⟨_,_,rfl,λe=>h2 ?_⟩;exact e
def yEi (x:Es) (p:Prd) (s:Int) (b:List UInt8):∃o l,(x.X p s b).O=o::l/\(o.2.kind=2->x.M p s b=[]):=by
 obtain⟨o,l,h1,h2⟩:=z3k p x.B x.U x.W s b;refine⟨o,l,h1,λe=> ?_⟩;rw[Es.M,Es.X,h2 e];exact z7j 0 _
structure AnOk (p:Prd) (x:Es) (d:Dk) (j:SdJ):Prop where
 r:j.o.Rep p j.x.B j.x.U
 ok:BOk p j.x.B
 q1:x.q<=j.x.q
 q2:j.x.q<=x.q+202000000
 n:j.x.R.length<=x.R.length+1
 d:j.d.b.length<=d.b.length+107
 m:∃M:List VM,j.N=wZ x.q M/\j.x.q=x.q+(M.length:Int)
 t:∃o l,j.O=o::l/\(o.2.kind=2->j.N=[])
def AnOk.bad {p:Prd} {x:Es} {d:Dk} {o:Mkt} (h1:o.Rep p x.B x.U) (h2:BOk p x.B) (s w:Int):AnOk p x d ⟨x,o,d,[(s,⟨2,0,0,0,0,0,0,w⟩)],[]⟩:=
 ⟨h1,h2,y8s _,Z9,Z9,Z9,⟨[],rfl,by simp⟩,⟨_,_,rfl,λ_=>rfl⟩⟩
def AnOk.good {p:Prd} {x:Es} {d:Dk} {o o2:Mkt} (h1:o.Rep p x.B x.U) (h2:BOk p x.B) {s:Int} {b:List UInt8} (hb:b.length<=100) (h3:o2.Rep p (x.X p s b).B (x.X p s b).U):
 AnOk p x d ⟨x.ed p s b,o2,⟨d.b++xJ (jO s b),d.safe⟩,(x.X p s b).O,wZ x.q (x.M p s b)⟩:=by
 obtain⟨t1,t2,t3,t4⟩:=z7w h1 h2 s b h3;refine⟨h3,t1,t2,t3,Z9,?_,⟨_,rfl,rfl⟩,?_⟩
 ·dsimp only;rw[y5d,gH,jO,y5j];omega
 ·obtain⟨o,l,e1,e2⟩:=yEi x p s b;exact⟨o,l,e1,λe=>by rw[e2 e];rfl⟩
def y3k {l:List EaM} {k:Nat} {a:EaM} (h:l[k]? =ar a):zE (l.map eaE) k 1 1=ar [D.v (.int .i64 a.s)]:=elA h (by simp[eaE,cmdE]) rfl
def yXu {l:List EaM} {k:Nat} {a:EaM} (h:l[k]? =ar a):zE (l.map eaE) k 0 13=ar [D.v (.int .i64 a.kind),D.v (.int .i64 a.s),D.v (.int .i64 a.n),D.v (.int .i64 a.c.kind),D.v (.int .i64 a.c.id),D.v (.int .i64 a.c.inst),D.v (.int .i64 a.c.side),D.v (.int .i64 a.c.price),D.v (.int .i64 a.c.qty),D.v (.int .i64 a.c.least),D.v (.int .i64 a.c.time),D.v (.string (sb a.c.label)),D.ro 1 (bE a.b)]:=elA h (by simp[eaE,cmdE]) rfl
def erec1C:Con:=con1 ErI (λi=>[.nm 0 0,zA i.n]) (λi=>[enC i.e 4 7,.gone,.gone,.gone,rcR i.e.R,.gone,.gone,.gone]) (λi=>(0<=i.n/\i.n<i.e.R.length)/\i.e.R.length<=1000000/\∀r∈i.e.R,r.length<=1048576) (λi=> .tup [roV 1 (bE (i.e.R.getD i.n.toNat [])),yR am]) (λi=>[enC i.e 4 7,.gone,.gone,.gone,rcR i.e.R,.gone,.gone,.gone])
structure RcJ where
 x:Es
 o:Mkt
 d:Dk
 g:Mkt
 k:Nat
structure RkJ where
 O:List (Int×Rep)
 N:List zQq
 O2:List (Int×Rep)
 m:Nat
def rcA (i:SqI):List SAnn:=[
 {ι:=RcJ,slots:=λj=>[(5,.nm 8 0),(6,.nm 0 0),(8,.nm 11 0),(10,zA j.x.R.length),(11,zA j.k)],rows:=λj=>yGq i.p j.x j.o j.d++y4d i.p++[GtR ⟨j.g,j.x.W⟩]},
 {ι:=RkJ,slots:=λj=>[(14,.nm 0 0),(17,.own 3),(18,zA j.m)],rows:=λj=>[.cells [.own 1,.own 2] yCp,zWh j.O,z2e j.N,zWh j.O2]}]
def rcJ (i:SqI):List (Nat×SAnn):=[(32,bj 53),(48,doJ i.p 6 14),(64,bj 112)]
def zDx (a:ErI):Prop:=sb a.e.p.code=sb a.e.p.code/\dh a.e.p.tick/\dh a.e.p.low/\dh a.e.p.high/\dh a.e.p.wide/\dh a.e.p.rule/\dh a.e.p.top/\dh a.e.p.least/\dh a.e.p.part/\dh a.e.q/\dh (ae rcE a.e.R)/\True
def zCb (a:ErI):Prop:=∃(b:Unit),bE (a.e.R.getD a.n.toNat [])=[]/\am=ak/\zDx a
def yIo (i:ErI):Prop:=
 cnd (decide (i.n<0)) (zCb i) (cnd (decide (i.n>=(↑(ae rcE i.e.R).length:Int))) (zCb i) ((0<=i.n/\i.n<(↑(ae rcE i.e.R).length:Int))/\∃(a:List (List D)),zE (ae rcE i.e.R) i.n.toNat 0 1=ar [D.ro 1 a]/\∃(b:List (List D)),b=a/\b.length*(1:Nat)<=(140737488355328:Nat)/\∀(c:Unit),True->∃(d:Unit),bE (i.e.R.getD i.n.toNat [])=b/\am=am/\zDx i))
def zEg:=((ar ((0:Nat)+(1:Nat)+(1:Nat)+(1:Nat)+((0:Nat)-(0:Nat))+(1:Nat)+(1:Nat)+1+((1:Nat)-(0:Nat))+nat_lit 2)).getD ((0:Nat)+(1:Nat)+(1:Nat)+(1:Nat)+((0:Nat)-(0:Nat))+(1:Nat)+(1:Nat)+1+((1:Nat)-(0:Nat))+((8:Nat)-(1:Nat))+((1:Nat)-(0:Nat))+(12:Nat)+(0:Nat)+((0:Nat)-(0:Nat))+((0:Nat)-(0:Nat))+nat_lit 2))
def zFu:=((ar ((0:Nat)+(1:Nat)+(1:Nat)+(1:Nat)+((0:Nat)-(0:Nat))+(1:Nat)+(1:Nat)+1+((1:Nat)-(0:Nat))+nat_lit 1)).getD ((0:Nat)+(1:Nat)+(1:Nat)+(1:Nat)+((0:Nat)-(0:Nat))+(1:Nat)+(1:Nat)+1+((1:Nat)-(0:Nat))+((8:Nat)-(1:Nat))+((1:Nat)-(0:Nat))+(12:Nat)+(0:Nat)+((0:Nat)-(0:Nat))+((0:Nat)-(0:Nat))+nat_lit 1))
def zFj:=((ar ((0:Nat)+(1:Nat)+(1:Nat)+(1:Nat)+((0:Nat)-(0:Nat))+(1:Nat)+(1:Nat)+1+nat_lit 0)).getD ((0:Nat)+(1:Nat)+(1:Nat)+(1:Nat)+((0:Nat)-(0:Nat))+(1:Nat)+(1:Nat)+1+((1:Nat)-(0:Nat))+((8:Nat)-(1:Nat))+((1:Nat)-(0:Nat))+(12:Nat)+(0:Nat)+((0:Nat)-(0:Nat))+((0:Nat)-(0:Nat))+nat_lit 3))
def zWx:=(none.getD ((0:Nat)+(1:Nat)+(1:Nat)+(1:Nat)+((0:Nat)-(0:Nat))+(1:Nat)+(1:Nat)+1+((1:Nat)-(0:Nat))+((8:Nat)-(1:Nat))+((1:Nat)-(0:Nat))+(12:Nat)+(0:Nat)+((0:Nat)-(0:Nat))+((0:Nat)-(0:Nat))+nat_lit 10))
def zUe:=(none.getD ((0:Nat)+(1:Nat)+(1:Nat)+(1:Nat)+((0:Nat)-(0:Nat))+(1:Nat)+(1:Nat)+1+((1:Nat)-(0:Nat))+((8:Nat)-(1:Nat))+((1:Nat)-(0:Nat))+(12:Nat)+(0:Nat)+((0:Nat)-(0:Nat))+((0:Nat)-(0:Nat))+nat_lit 9))
def zGr:=(none.getD ((0:Nat)+(1:Nat)+(1:Nat)+(1:Nat)+((0:Nat)-(0:Nat))+(1:Nat)+(1:Nat)+1+((1:Nat)-(0:Nat))+((8:Nat)-(1:Nat))+((1:Nat)-(0:Nat))+(12:Nat)+(0:Nat)+((0:Nat)-(0:Nat))+((0:Nat)-(0:Nat))+nat_lit 7))
def zFy:=(none.getD ((0:Nat)+(1:Nat)+(1:Nat)+(1:Nat)+((0:Nat)-(0:Nat))+(1:Nat)+(1:Nat)+1+((1:Nat)-(0:Nat))+((8:Nat)-(1:Nat))+((1:Nat)-(0:Nat))+(12:Nat)+(0:Nat)+((0:Nat)-(0:Nat))+((0:Nat)-(0:Nat))+nat_lit 6))
def zEj:=(none.getD ((0:Nat)+(1:Nat)+(1:Nat)+(1:Nat)+((0:Nat)-(0:Nat))+(1:Nat)+(1:Nat)+1+((1:Nat)-(0:Nat))+((8:Nat)-(1:Nat))+((1:Nat)-(0:Nat))+(12:Nat)+(0:Nat)+((0:Nat)-(0:Nat))+((0:Nat)-(0:Nat))+nat_lit 5))
def zEe:=(none.getD ((0:Nat)+(1:Nat)+(1:Nat)+(1:Nat)+((0:Nat)-(0:Nat))+(1:Nat)+(1:Nat)+1+((1:Nat)-(0:Nat))+((8:Nat)-(1:Nat))+((1:Nat)-(0:Nat))+(12:Nat)+(0:Nat)+((0:Nat)-(0:Nat))+((0:Nat)-(0:Nat))+nat_lit 4))
def bJ (a:SqI) (b:RcJ):=(ae yI (y6 a.p b.x.B))
def rE (a:SqI):=(D.v (ao (sb a.p.code)))
def zUk (a:EpI) (b:Prd) (c:SqI):Prop:=aa 1 (iE a.p.months)=aa 1 (iE a.p.months)/\dh (aa 1 (iE a.p.settle))/\dh (aa 10 (v8 a))/\dh (aa 1 (iE (vO b)))/\dh (aa 1 (iE (qE (kN b).toNat)))/\dh (ab [V.d (D.v (ao (sb c.x.code))),V.own 0,V.d (dI c.x.tick),V.d (dI c.x.low),V.d (dI c.x.high),V.d (dI c.x.wide),V.d (dI c.x.rule),V.d (dI c.x.top),V.d (dI c.x.least),V.d (dI c.x.part),V.own 1] 25)/\dh (aa 1 (iE c.x.settle))/\dh (aa 1 (iE c.x.months))
def zWm (a:SqI) (b:RcJ) (c:EpI) (d:Prd):Prop:=aa 1 (iE a.p.months)=aa 1 (iE a.p.months)/\dh (aa 1 (iE a.p.settle))/\dh (aa 10 (bJ a b))/\dh (ab [V.d (rE a),V.own 24,V.d (dI a.p.tick),V.d (dI a.p.low),V.d (dI a.p.high),V.d (dI a.p.wide),V.d (dI a.p.rule),V.d (dI a.p.top),V.d (dI a.p.least),V.d (dI a.p.part),V.own 25] (25:aq))/\dh (aa 1 (iE a.p.months))/\dh (aa 1 (iE a.p.settle))/\dh (GtR (Gt.mk b.g b.x.W))/\zUk c d a
def zGb (a:ErI):=(D.v (ao (sb a.e.p.code)))
def fU (a:SqI) (b:SdJ):=(ae yI (y6 a.p b.x.B))
def yIg (a:Bool->Prop) (b:Bool) (c:ErI) (d:SdJ) (e:SqI) (f:RcJ) (g:EpI) (h:Prd):Prop:=a b/\dh (ab [V.d (zGb c),V.own zEj,V.d (dI c.e.p.tick),V.d (dI c.e.p.low),V.d (dI c.e.p.high),V.d (dI c.e.p.wide),V.d (dI c.e.p.rule),V.d (dI c.e.p.top),V.d (dI c.e.p.least),V.d (dI c.e.p.part),V.own zFy,V.nm zFu 0,V.nm zEg 0,V.own zGr,V.d (dI c.e.q),V.own zEe] z0l)/\dh (ac tBy 1 (ae rcE c.e.R))/\dh (ab [V.nm zFj 0,V.d (dI (↑d.x.R.length:Int))] (232:aq))/\dh (GtR (Gt.mk d.o d.x.W))/\dh (DkR d.d)/\dh (aa 1 (iE e.p.months))/\dh (aa 1 (iE e.p.settle))/\dh (aa 10 (fU e d))/\dh (ab [V.own zUe,V.own zWx] yCp)/\dh (ac z3z 9 (ae qA d.O))/\dh (ac zVa 7 (ae xG d.N))/\zWm e f g h
def yFt (a:Bool->Prop) (b:ErI) (c:SdJ) (d:SqI) (e:RcJ) (f:EpI) (g:Prd):Prop:=∃(h:Bool),h=am/\yIg a h b c d e f g
def z5c (a:Bool->Prop) (b:Bool) (c:SqI) (d:RcJ) (e:EpI) (f:Prd):Prop:=a b/\dh (ab [V.d (rE c),V.own 20,V.d (dI c.p.tick),V.d (dI c.p.low),V.d (dI c.p.high),V.d (dI c.p.wide),V.d (dI c.p.rule),V.d (dI c.p.top),V.d (dI c.p.least),V.d (dI c.p.part),V.own 21,V.nm 8 0,V.nm 9 0,V.own 22,V.d (dI d.x.q),V.own 19] z0l)/\dh (ab [V.nm 6 0,V.d (dI (↑d.x.R.length:Int))] (232:aq))/\dh (GtR (Gt.mk d.o d.x.W))/\dh (DkR d.d)/\dh (ac tBy 1 (ae rcE d.x.R))/\zWm c d e f
def z1z (a:SdJ->Prop) (b:SdJ) (c:SqI) (d:RcJ) (e:EpI) (f:Prd):Prop:=a b/\zWm c d e f
def z2d (a:RcJ->Prop) (b:RcJ) (c:RcJ->Nat) (d:RcJ) (e:EpI) (f:Prd) (g:SqI):Prop:=a b/\c b<c d/\zUk e f g
def zBd (a:ErI):=(bE (a.e.R.getD a.n.toNat []))
def zAm (a:ErI):=(↑(zBd a).length:Int)
def Vrc (i:SqI):Prop:=
 ∃(a:Prd),sb a.code=sb i.x.code/\iE a.months=iE i.x.months/\a.tick=i.x.tick/\a.low=i.x.low/\a.high=i.x.high/\a.wide=i.x.wide/\a.rule=i.x.rule/\a.top=i.x.top/\a.least=i.x.least/\a.part=i.x.part/\iE a.settle=iE i.x.settle/\(((-9223372036854775808)<=a.tick/\a.tick<=9223372036854775807)/\((-9223372036854775808)<=a.wide/\a.wide<=9223372036854775807)/\((-9223372036854775808)<=a.rule/\a.rule<=9223372036854775807)/\((-9223372036854775808)<=a.top/\a.top<=9223372036854775807)/\((-9223372036854775808)<=a.least/\a.least<=9223372036854775807)/\((-9223372036854775808)<=a.part/\a.part<=9223372036854775807)/\a.months.length<=9223372036854775807)/\∀(b:Unit),True->∃(c:Unit),True/\∀(d:Unit),True->(dh (sb [(206:UInt8),(169:UInt8)])/\True/\zR a=zR a/\dh ((-20)*zR a)/\dh (100*zR a)/\dh (zR a*(qV a))/\1+zF a.rule 0 (2:Int)=(1:Int)+zF a.rule 0 2/\zF a.top 0 9=zF a.top 0 (9:Int)/\(1:Int)+zF a.least 0 (4:Int)=(1:Int)+zF a.least 0 4/\dh (zF a.part 0 100)/\True/\True)/\∃(e:EpI),sb e.p.code=sb [(206:UInt8),(169:UInt8)]/\iE e.p.months=iE (qE (kN a).toNat)/\e.p.tick=zR a/\e.p.low=(-20)*zR a/\e.p.high=100*zR a/\e.p.wide=zR a*(qV a)/\e.p.rule=1+zF a.rule 0 2/\e.p.top=zF a.top 0 9/\e.p.least=1+zF a.least 0 4/\e.p.part=zF a.part 0 100/\iE e.p.settle=iE (vO a)/\DkR e.j.d=DkR (Dk.mk [] 0)/\(fW e)/\∀(f:Mkt),f.Rep e.p (jA e.p e.L).B (jA e.p e.L).U->∃(g:Prd),sb g.code=sb [(206:UInt8),(169:UInt8)]/\iE g.months=iE (qE (kN a).toNat)/\g.tick=zR a/\g.low=(-20)*zR a/\g.high=100*zR a/\g.wide=zR a*(qV a)/\g.rule=1+zF a.rule 0 2/\g.top=zF a.top 0 9/\g.least=1+zF a.least 0 4/\g.part=zF a.part 0 100/\iE g.settle=iE (vO a)/\(z6 g)/\(∀(h:Unit),g.check=0->∃(j:RcJ),(↑j.x.R.length:Int)=0/\(↑j.k:Int)=0/\sb i.p.code=sb e.p.code/\i.p.tick=e.p.tick/\i.p.low=e.p.low/\i.p.high=e.p.high/\i.p.wide=e.p.wide/\i.p.rule=e.p.rule/\i.p.top=e.p.top/\i.p.least=e.p.least/\i.p.part=e.p.part/\j.x.q=(jA e.p e.L).q/\(↑j.x.R.length:Int)=(↑e.L.length:Int)/\GtR (Gt.mk j.o j.x.W)=GtR (Gt.mk f (jA e.p e.L).W)/\DkR j.d=DkR e.j.d'/\ae rcE j.x.R=ae rcE (jA e.p e.L).R/\aa 1 (iE i.p.months)=aa 1 (iE e.p.months)/\aa 1 (iE i.p.settle)=aa 1 (iE e.p.settle)/\aa 10 (bJ i j)=aa 10 (v8 e)/\sb i.p.code=sb [(206:UInt8),(169:UInt8)]/\i.p.tick=zR a/\i.p.low=(-20)*zR a/\i.p.high=100*zR a/\i.p.wide=zR a*(qV a)/\i.p.rule=1+zF a.rule 0 2/\i.p.top=zF a.top 0 9/\i.p.least=1+zF a.least 0 4/\i.p.part=zF a.part 0 100/\aa 1 (iE i.p.months)=aa 1 (iE (qE (kN a).toNat))/\aa 1 (iE i.p.settle)=aa 1 (iE (vO a))/\GtR (Gt.mk j.g j.x.W)=GtR (Gt.mk (Mkt.mk g (cV g) []) [])/\∃(k:RcJ->Prop),∃(l:RcJ->Nat),k j/\∀(m:RcJ),k m->∃(n:Bool),∃(p:Bool->Prop),cnd (decide ((↑m.k:Int)<(↑(ae eaE i.l).length:Int))) (∃(q:Bool),q=decide ((↑m.k:Int)<40)/\z5c p q i m e a) (∃(q:Bool),q=ak/\z5c p q i m e a)/\∀(q:Bool),p q->cnd q ((0<=(↑m.k:Int)/\(↑m.k:Int)<(↑(ae eaE i.l).length:Int))/\∃(r:Int),zE (ae eaE i.l) (↑m.k:Int).toNat 1 1=ar [dI r]/\∃(s:WiI),s.n=r/\s.lo=0/\s.hi=8/\(y3 s)/\∀(t:Unit),True->(0<=(↑m.k:Int)/\(↑m.k:Int)<(↑(ae eaE i.l).length:Int))/\∃(u:Int),∃(v:Int),∃(w:Int),∃(x:Int),∃(y:Int),∃(z:Int),∃(a_1:Int),∃(a_2:Int),∃(a_3:Int),∃(a_4:Int),∃(a_5:Int),∃(a_6:ByteArray),∃(a_7:List (List D)),zE (ae eaE i.l) (↑m.k:Int).toNat 0 13=ar [dI u,dI v,dI w,dI x,dI y,dI z,dI a_1,dI a_2,dI a_3,dI a_4,dI a_5,D.v (ao a_6),D.ro 1 a_7]/\∃(a_8:ByI),sb a_8.p.code=sb i.p.code/\iE a_8.p.months=iE i.p.months/\a_8.p.tick=i.p.tick/\a_8.p.low=i.p.low/\a_8.p.high=i.p.high/\a_8.p.wide=i.p.wide/\a_8.p.rule=i.p.rule/\a_8.p.top=i.p.top/\a_8.p.least=i.p.least/\a_8.p.part=i.p.part/\iE a_8.p.settle=iE i.p.settle/\a_8.a.kind=u/\a_8.a.s=v/\a_8.a.n=w/\a_8.a.c.kind=x/\a_8.a.c.id=y/\a_8.a.c.inst=z/\a_8.a.c.side=a_1/\a_8.a.c.price=a_2/\a_8.a.c.qty=a_3/\a_8.a.c.least=a_4/\a_8.a.c.time=a_5/\sb a_8.a.c.label=a_6/\bE a_8.a.b=a_7/\(↑a_8.k:Int)=(↑m.k:Int)/\((∃(a_9:Prd),a_8.p=kprod a_9)/\(((-9223372036854775808)<=a_8.a.kind/\a_8.a.kind<=9223372036854775807)/\((-9223372036854775808)<=a_8.a.s/\a_8.a.s<=9223372036854775807)/\((-9223372036854775808)<=a_8.a.n/\a_8.a.n<=9223372036854775807)/\((-9223372036854775808)<=a_8.a.c.kind/\a_8.a.c.kind<=9223372036854775807)/\((-9223372036854775808)<=a_8.a.c.id/\a_8.a.c.id<=9223372036854775807)/\((-9223372036854775808)<=a_8.a.c.inst/\a_8.a.c.inst<=9223372036854775807)/\((-9223372036854775808)<=a_8.a.c.side/\a_8.a.c.side<=9223372036854775807)/\((-9223372036854775808)<=a_8.a.c.price/\a_8.a.c.price<=9223372036854775807)/\((-9223372036854775808)<=a_8.a.c.qty/\a_8.a.c.qty<=9223372036854775807)/\((-9223372036854775808)<=a_8.a.c.least/\a_8.a.c.least<=9223372036854775807)/\(-9223372036854775808)<=a_8.a.c.time/\a_8.a.c.time<=9223372036854775807)/\a_8.k<=1000000)/\∀(a_9:Unit),True->∃(a_10:SdJ),dh (sb i.p.code)/\dh i.p.tick/\dh i.p.low/\dh i.p.high/\dh i.p.wide/\dh i.p.rule/\dh i.p.top/\dh i.p.least/\dh i.p.part/\a_10.x.q=m.x.q/\(↑a_10.x.R.length:Int)=(↑m.x.R.length:Int)/\GtR (Gt.mk a_10.o a_10.x.W)=GtR (Gt.mk m.o m.x.W)/\DkR a_10.d=DkR m.d/\ae rcE a_10.x.R=ae rcE m.x.R/\dh (aa 1 (iE i.p.months))/\dh (aa 1 (iE i.p.settle))/\aa 10 (fU i a_10)=aa 10 (bJ i m)/\∃(a_11:SdJ->Prop),(∃(a_12:EoI),a_12.s=aj.wrap (zF s.n s.lo s.hi-1)/\bE a_12.b=bE a_8.r/\sb a_12.p.code=sb i.p.code/\a_12.p.tick=i.p.tick/\a_12.p.low=i.p.low/\a_12.p.high=i.p.high/\a_12.p.wide=i.p.wide/\a_12.p.rule=i.p.rule/\a_12.p.top=i.p.top/\a_12.p.least=i.p.least/\a_12.p.part=i.p.part/\a_12.x.q=a_10.x.q/\(↑a_12.x.R.length:Int)=(↑a_10.x.R.length:Int)/\GtR (Gt.mk a_12.o a_12.x.W)=GtR (Gt.mk a_10.o a_10.x.W)/\DkR a_12.d=DkR a_10.d/\ae rcE a_12.x.R=ae rcE a_10.x.R/\aa 1 (iE a_12.p.months)=aa 1 (iE i.p.months)/\aa 1 (iE a_12.p.settle)=aa 1 (iE i.p.settle)/\aa 10 (gB a_12)=aa 10 (fU i a_10)/\(fQ a_12)/\(∀(a_13:Mkt),(zS a_12.s a_12.b).snd≠0/\a_13.Rep a_12.p a_12.x.B a_12.x.U->∃(a_14:SdJ),sb i.p.code=sb a_12.p.code/\i.p.tick=a_12.p.tick/\i.p.low=a_12.p.low/\i.p.high=a_12.p.high/\i.p.wide=a_12.p.wide/\i.p.rule=a_12.p.rule/\i.p.top=a_12.p.top/\i.p.least=a_12.p.least/\i.p.part=a_12.p.part/\a_14.x.q=a_12.x.q/\(↑a_14.x.R.length:Int)=(↑a_12.x.R.length:Int)/\GtR (Gt.mk a_14.o a_14.x.W)=GtR (Gt.mk a_13 a_12.x.W)/\DkR a_14.d=DkR a_12.d/\ae rcE a_14.x.R=ae rcE a_12.x.R/\aa 1 (iE i.p.months)=aa 1 (iE a_12.p.months)/\aa 1 (iE i.p.settle)=aa 1 (iE a_12.p.settle)/\aa 10 (fU i a_14)=aa 10 (gB a_12)/\ae qA a_14.O=[qA (a_12.s,Rep.mk 2 0 0 0 0 0 0 (zS a_12.s a_12.b).snd)]/\ae xG a_14.N=[]/\z1z a_11 a_14 i m e a)/\∀(a_13:Mkt),(zS a_12.s a_12.b).snd=0/\a_13.Rep a_12.p (a_12.x.X a_12.p a_12.s a_12.b).B (a_12.x.X a_12.p a_12.s a_12.b).U->∃(a_14:SdJ),sb i.p.code=sb a_12.p.code/\i.p.tick=a_12.p.tick/\i.p.low=a_12.p.low/\i.p.high=a_12.p.high/\i.p.wide=a_12.p.wide/\i.p.rule=a_12.p.rule/\i.p.top=a_12.p.top/\i.p.least=a_12.p.least/\i.p.part=a_12.p.part/\a_14.x.q=a_12.x.q+(cR a_12)/\(↑a_14.x.R.length:Int)=(cQ a_12)/\GtR (Gt.mk a_14.o a_14.x.W)=GtR (Gt.mk a_13 (a_12.x.X a_12.p a_12.s a_12.b).W)/\DkR a_14.d=DkR a_12.D/\ae rcE a_14.x.R=ae rcE (a_12.x.R++[jO a_12.s a_12.b])/\aa 1 (iE i.p.months)=aa 1 (iE a_12.p.months)/\aa 1 (iE i.p.settle)=aa 1 (iE a_12.p.settle)/\aa 10 (fU i a_14)=aa 10 (cP a_12)/\ae qA a_14.O=ae qA a_12.O/\ae xG a_14.N=ae xG a_12.N/\z1z a_11 a_14 i m e a)/\∀(a_12:SdJ),a_11 a_12->∃(a_13:SbI),a_13.s=aj.wrap (zF s.n s.lo s.hi-1)/\bE a_13.b=bE a_8.r/\a_13.b.length<=1099511627776/\∀(a_14:Unit),True->cnd ((zS a_13.s a_13.b).snd !=0) (∃(a_15:RcJ),(↑a_15.x.R.length:Int)=(↑m.x.R.length:Int)/\(↑a_15.k:Int)=aj.wrap ((↑m.k:Int)+1)/\dh (sb i.p.code)/\dh i.p.tick/\dh i.p.low/\dh i.p.high/\dh i.p.wide/\dh i.p.rule/\dh i.p.top/\dh i.p.least/\dh i.p.part/\a_15.x.q=a_12.x.q/\(↑a_15.x.R.length:Int)=(↑a_12.x.R.length:Int)/\GtR (Gt.mk a_15.o a_15.x.W)=GtR (Gt.mk a_12.o a_12.x.W)/\DkR a_15.d=DkR a_12.d/\ae rcE a_15.x.R=ae rcE a_12.x.R/\dh (aa 1 (iE i.p.months))/\dh (aa 1 (iE i.p.settle))/\aa 10 (bJ i a_15)=aa 10 (fU i a_12)/\dh (sb i.p.code)/\dh i.p.tick/\dh i.p.low/\dh i.p.high/\dh i.p.wide/\dh i.p.rule/\dh i.p.top/\dh i.p.least/\dh i.p.part/\dh (aa 1 (iE i.p.months))/\dh (aa 1 (iE i.p.settle))/\GtR (Gt.mk a_15.g a_15.x.W)=GtR (Gt.mk m.g m.x.W)/\z2d k a_15 l m e a i) (∃(a_15:ErI),a_15.n=(↑m.x.R.length:Int)/\sb a_15.e.p.code=sb i.p.code/\a_15.e.p.tick=i.p.tick/\a_15.e.p.low=i.p.low/\a_15.e.p.high=i.p.high/\a_15.e.p.wide=i.p.wide/\a_15.e.p.rule=i.p.rule/\a_15.e.p.top=i.p.top/\a_15.e.p.least=i.p.least/\a_15.e.p.part=i.p.part/\a_15.e.q=a_12.x.q/\ae rcE a_15.e.R=ae rcE a_12.x.R/\((0<=a_15.n/\a_15.n<(↑a_15.e.R.length:Int))/\a_15.e.R.length<=1000000/\∀(a_16:List UInt8),a_16∈a_15.e.R->a_16.length<=1048576)/\∀(a_16:Unit),True->∃(a_17:Bool),∃(a_18:Bool->Prop),cnd ((zAm a_15) !=aj.wrap ((↑(bE a_8.r).length:Int)+1)) (yFt a_18 a_15 a_12 i m e a) (((0:Int)<=(0:Int)/\0<(zAm a_15))/\∃(a_19:Int),zE (zBd a_15) (ap 0) 0 1=ar [D.v (.int .u8 a_19)]/\cnd (aj.wrap a_19 !=aj.wrap (zF s.n s.lo s.hi-1)) (yFt a_18 a_15 a_12 i m e a) (((0:Int)<=(1:Int)/\1<=(zAm a_15))/\∃(a_20:ByteArray),dh ((1:Nat))/\ag (ap 1) (zBd a_15)=qY a_20/\∃(a_21:ByteArray),dh ((1:Nat))/\bE a_8.r=qY a_21/\∃(a_22:Bool),a_22=!a_20.toList==a_21.toList/\yIg a_18 a_22 a_15 a_12 i m e a))/\∀(a_19:Bool),a_18 a_19->cnd a_19 (∃(a_20:Unit),am=ak/\True) (((0:Int)<=(0:Int)/\0<(zAm a_15))/\∃(a_20:Int),zE (zBd a_15) (ap 0) 0 1=ar [D.v (.int .u8 a_20)]/\((0:Int)<=(1:Int)/\1<=(zAm a_15))/\∃(a_21:GdI),a_21.s=aj.wrap a_20/\bE a_21.b=ag (ap 1) (zBd a_15)/\GtR a_21.g=GtR (Gt.mk m.g m.x.W)/\(lW a_21)/\∀(a_22:Mkt),a_22.Rep a_21.p a_21.X.B a_21.X.U->cnd ((↑(ae qA a_21.X.O).length:Int) !=(↑(ae qA a_12.O).length:Int)) (∃(a_23:Unit),am=ak/\True) (∃(a_23:RkJ),(↑a_23.m:Int)=0/\ae qA a_23.O=ae qA a_12.O/\ae xG a_23.N=ae xG a_12.N/\ae qA a_23.O2=ae qA a_21.X.O/\∃(a_24:RkJ->Prop),∃(a_25:RkJ->Nat),a_24 a_23/\∀(a_26:RkJ),a_24 a_26->cnd (decide ((↑a_26.m:Int)<(↑(ae qA a_26.O2).length:Int))) ((0<=(↑a_26.m:Int)/\(↑a_26.m:Int)<(↑(ae qA a_26.O2).length:Int))/\∃(a_27:Int),∃(a_28:Int),∃(a_29:Int),∃(a_30:Int),∃(a_31:Int),∃(a_32:Int),∃(a_33:Int),∃(a_34:Int),∃(a_35:Int),zE (ae qA a_26.O2) (↑a_26.m:Int).toNat 0 9=ar [dI a_27,dI a_28,dI a_29,dI a_30,dI a_31,dI a_32,dI a_33,dI a_34,dI a_35]/\(0<=(↑a_26.m:Int)/\(↑a_26.m:Int)<(↑(ae qA a_26.O).length:Int))/\∃(a_36:Int),∃(a_37:Int),∃(a_38:Int),∃(a_39:Int),∃(a_40:Int),∃(a_41:Int),∃(a_42:Int),∃(a_43:Int),∃(a_44:Int),zE (ae qA a_26.O) (↑a_26.m:Int).toNat 0 9=ar [dI a_36,dI a_37,dI a_38,dI a_39,dI a_40,dI a_41,dI a_42,dI a_43,dI a_44]/\cnd (!(a_27==a_36 && (a_28==a_37 && (a_29==a_38 && (a_30==a_39 && (a_31==a_40 && (a_32==a_41 && (a_33==a_42 && (a_34==a_43 && (a_35==a_44 && am))))))) && am))) (∃(a_45:Unit),am=ak/\True) (∃(a_45:RkJ),(↑a_45.m:Int)=aj.wrap ((↑a_26.m:Int)+1)/\ae qA a_45.O=ae qA a_26.O/\ae xG a_45.N=ae xG a_26.N/\ae qA a_45.O2=ae qA a_26.O2/\a_24 a_45/\a_25 a_45<a_25 a_26/\dh (GtR (Gt.mk a_22 a_21.X.W))/\dh (ab [V.d (zGb a_15),V.own zEj,V.d (dI a_15.e.p.tick),V.d (dI a_15.e.p.low),V.d (dI a_15.e.p.high),V.d (dI a_15.e.p.wide),V.d (dI a_15.e.p.rule),V.d (dI a_15.e.p.top),V.d (dI a_15.e.p.least),V.d (dI a_15.e.p.part),V.own zFy,V.nm zFu 0,V.nm zEg 0,V.own zGr,V.d (dI a_15.e.q),V.own zEe] z0l)/\dh (ac tBy 1 (ae rcE a_15.e.R))/\dh (ab [V.nm zFj 0,V.d (dI (↑a_12.x.R.length:Int))] (232:aq))/\dh (GtR (Gt.mk a_12.o a_12.x.W))/\dh (DkR a_12.d)/\dh (aa 1 (iE i.p.months))/\dh (aa 1 (iE i.p.settle))/\dh (aa 10 (fU i a_12))/\dh (aa 1 (iE i.p.months))/\dh (aa 1 (iE i.p.settle))/\dh (aa 10 (bJ i m))/\dh (ab [V.d (rE i),V.own 24,V.d (dI i.p.tick),V.d (dI i.p.low),V.d (dI i.p.high),V.d (dI i.p.wide),V.d (dI i.p.rule),V.d (dI i.p.top),V.d (dI i.p.least),V.d (dI i.p.part),V.own 25] (25:aq))/\dh (aa 1 (iE i.p.months))/\dh (aa 1 (iE i.p.settle))/\zUk e a i)) (∃(a_27:RcJ),(↑a_27.x.R.length:Int)=aj.wrap ((↑m.x.R.length:Int)+1)/\(↑a_27.k:Int)=aj.wrap ((↑m.k:Int)+1)/\sb i.p.code=sb a_15.e.p.code/\i.p.tick=a_15.e.p.tick/\i.p.low=a_15.e.p.low/\i.p.high=a_15.e.p.high/\i.p.wide=a_15.e.p.wide/\i.p.rule=a_15.e.p.rule/\i.p.top=a_15.e.p.top/\i.p.least=a_15.e.p.least/\i.p.part=a_15.e.p.part/\a_27.x.q=a_15.e.q/\(↑a_27.x.R.length:Int)=(↑a_12.x.R.length:Int)/\GtR (Gt.mk a_27.o a_27.x.W)=GtR (Gt.mk a_12.o a_12.x.W)/\DkR a_27.d=DkR a_12.d/\ae rcE a_27.x.R=ae rcE a_15.e.R/\dh (aa 1 (iE i.p.months))/\dh (aa 1 (iE i.p.settle))/\aa 10 (bJ i a_27)=aa 10 (fU i a_12)/\dh (sb i.p.code)/\dh i.p.tick/\dh i.p.low/\dh i.p.high/\dh i.p.wide/\dh i.p.rule/\dh i.p.top/\dh i.p.least/\dh i.p.part/\dh (aa 1 (iE i.p.months))/\dh (aa 1 (iE i.p.settle))/\GtR (Gt.mk a_27.g a_27.x.W)=GtR (Gt.mk a_22 a_21.X.W)/\z2d k a_27 l m e a i))))) (cnd ((↑(ae rcE m.x.R).length:Int)==(↑m.x.R.length:Int)) (∃(r:Prd),r=mT 1/\∀(s:Unit),True->∃(t:Unit),am=am/\True) (∃(r:Unit),am=ak/\True)))/\∀(h:Unit),g.check≠0->∃(j:Unit),am=ak/\True
def eqrc (i:SqI):Vrc i=walk Tryz.prog ([(12,kprodC),(32,dnewC),(31,eopC),(41,newGC),(14,withinC),(35,bytC),(34,edoC),(39,gchkC),(42,erec1C),(43,gdoC),(36,known24C)]) 1 (rcJ i) (rcA i) [] Tryz.f10 (Tryz.f10.body.getD .skip) (sqC.pat i) (sqC.pre i) (sqC.alts i):=by kernel_rfl
def erec1_ok:erec1C.ok Tryz.prog 42:=okw (V:=yIo) mixed (gokc zQj gok0) 0 (λ_=>[]) (λ_=>[]) [] Tryz.func42 λ(i:ErI) h=>by
 obtain⟨⟨h0,h3⟩,h1,h2⟩:(0<=i.n/\i.n<i.e.R.length)/\i.e.R.length<=1000000/\∀r∈i.e.R,r.length<=1048576:=h;unfold yIo zCb zDx;rw[y5f];refine zH (λc=>by omega) (λc=>zH (λc2=>by omega) (λc2=> ?_));obtain⟨r,hr⟩:=yD (l:=i.e.R) (i:=i.n.toNat) oM;have hg:i.e.R.getD i.n.toNat []=r:=by rw[y5n,hr];rfl
 have hl:=h2 r (y5p hr);refine⟨⟨oM,oM⟩,bE r,zUu hr,_,rfl,by rw[yK];omega,λ_ _=>⟨(),by rw[hg],k0q⟩⟩
def y4x {O:List (Int×Rep)} {k:Nat} {o:Int×Rep} (h:O[k]? =ar o):zE (O.map qA) k 0 9=ar [D.v (.int .i64 o.1),.v (.int .i64 o.2.kind),.v (.int .i64 o.2.id),.v (.int .i64 o.2.inst),.v (.int .i64 o.2.side),.v (.int .i64 o.2.price),.v (.int .i64 o.2.qty),.v (.int .i64 o.2.left),.v (.int .i64 o.2.why)]:=elA h (by simp[qA,xR]) rfl
structure AnR (p:Prd) (x:Es) (d:Dk) (s:Int) (b:List UInt8) (j:SdJ):Prop where
 a:AnOk p x d j
 c:(zS s b).2≠0/\j.x=x\/(zS s b).2=0/\j.x=x.ed p s b/\j.O=(x.X p s b).O
def AnR.bad {p:Prd} {x:Es} {d:Dk} {o:Mkt} (h1:o.Rep p x.B x.U) (h2:BOk p x.B) {s:Int} {b:List UInt8} (h:(zS s b).2≠0) (w:Int):AnR p x d s b ⟨x,o,d,[(s,⟨2,0,0,0,0,0,0,w⟩)],[]⟩:=⟨AnOk.bad h1 h2 s w,.inl ⟨h,rfl⟩⟩
def AnR.good {p:Prd} {x:Es} {d:Dk} {o o2:Mkt} (h1:o.Rep p x.B x.U) (h2:BOk p x.B) {s:Int} {b:List UInt8} (hb:b.length<=100) (h:(zS s b).2=0) (h3:o2.Rep p (x.X p s b).B (x.X p s b).U):
 AnR p x d s b ⟨x.ed p s b,o2,⟨d.b++xJ (jO s b),d.safe⟩,(x.X p s b).O,wZ x.q (x.M p s b)⟩:=⟨AnOk.good h1 h2 hb h3,.inr ⟨h,rfl,rfl⟩⟩
def zSe (s:Int):∀(W:List (Int×Int)) (l:List Rep),(nO s W l).2.length=l.length
 |_,[]=>rfl
 |W,r::l=>by rw[nO];dsimp only;rw[y5j,zSe s _ l,y5j]
def yFy {p:Prd} {B:List (List zI)} (h:BWf p B) (U:List Int) (W:List (Int×Int)) (s:Int) (b:List UInt8):(pA p B U W s b).O.length<=1503000003:=by
 rw[pA];split
 ·exact y6d rfl
 split
 ·exact y6d rfl
 rw[zTc];split
 ·exact y6d rfl
 split
 ·exact y6d rfl
 dsimp only;rw[zSe];exact z5r h U _
def yDp {α:Type} (l:List α) (a d:α):(l++[a]).getD l.length d=a:=by
 rw[y5n,y7e (y6a _),xAl];rfl
def vrc (i:SqI) (h:sqC.cnd i):Vrc i:=by
 obtain⟨x0,p,l⟩:=i;obtain⟨hp,hraw,hok,hlen⟩:p=kprod x0/\x0.raw/\(∀a∈l,a.ok)/\l.length<=9223372036854775807:=h;have hml:(l.map eaE).length=l.length:=y5f _;have hc:p.check=0:=by rw[hp];exact mP _
 have hs:p.small:=by rw[hp];exact zJt _
 obtain⟨p1,p2,p3,p4,p5,p6,p7,p8,p9,p10,p11⟩:sb p.code=sb [206,169]/\iE p.months=iE (qE (kN x0).toNat)/\p.tick=zR x0/\p.low= -20*zR x0/\p.high=100*zR x0/\p.wide=zR x0*(5+zF x0.wide 0 60)/\p.rule=1+zF x0.rule 0 2/\p.top=zF x0.top 0 9/\p.least=1+zF x0.least 0 4/\p.part=zF x0.part 0 100/\iE p.settle=iE (kF (zR x0) (kN x0).toNat):=by
  rw[hp];exact(rF7 (rF3 rfl))
 have hpx:∃x,p=kprod x:=⟨x0,hp⟩
 clear hp;have hB0:BOk p (es0 p).B:=BOk.new hc hs;unfold Vrc z2d zAm zBd z1z z5c yFt yIg fU zGb zWm zUk rE bJ zEe zEj zFy zGr zUe zWx zFj zFu zEg vO qV y3 fQ fW v8 lW gB cR cQ cP z6 dI;dsimp only;refine⟨x0,rF7 (rF3 ⟨rfl,hraw,λ_ _=>⟨(),trivial,λ_ _=>⟨k0q,⟨p,0,[],[]⟩,p1,p2,p3,p4,p5,p6,p7,p8,p9,p10,p11,rfl,⟨⟨hc,hs⟩,⟨⟨λl hl=>(by cases hl),rfl,y6d rfl⟩,y6a _,y6d rfl⟩,λr hr=>(by cases hr),y6d rfl⟩,λo ho=>⟨p,p1,p2,p3,p4,p5,p6,p7,p8,p9,p10,p11,hs,λ_ _=>⟨⟨es0 p,o,⟨[],0⟩,mk0 p,0⟩,rF8 (rF7 (rF3 ⟨rfl,p1,p3,p4,p5,p6,p7,p8,p9,p10,by rw[p2],by rw[p11],rfl,λj=>(j.k<=l.length/\j.k<=40)/\(j.o.Rep p j.x.B j.x.U/\BOk p j.x.B)/\(0<=j.x.q/\j.x.q<=202000000*(j.k:Int))/\(j.x.R.length<=j.k/\j.d.b.length<=107*j.k)/\j.g.Rep p j.x.B j.x.U/\∀r∈j.x.R,r.length<=101,λj=>40-j.k,⟨⟨y6l _,y6l _⟩,⟨ho,hB0⟩,⟨y8s _,y8s _⟩,⟨y6a _,y6a _⟩,z5p p,λr hr=>(by cases hr)⟩,?_⟩))⟩,λ_ hne=>absurd hc hne⟩⟩⟩⟩)⟩;rintro⟨x,o,d,g,k⟩ ⟨⟨hk,hk40⟩,⟨hM,hB⟩,⟨hq1,hq2⟩,⟨hR,hd⟩,hG,hRl⟩;dsimp only at hk hk40 hM hB hq1 hq2 hR hd hG hRl ⊢;refine⟨am,λb=>b=decide (k<l.length/\k<40),zH (λc=>⟨_,rfl,decide_eq_decide.2 ⟨λx=>⟨oM,oM⟩,λx=>by omega⟩,k0q⟩) (λc=>⟨_,rfl,(y5r oM).symm,k0q⟩),?_⟩;rintro _ rfl;refine zH (λc=> ?_) (λc=>Cv.cnd.mk (λ_=>⟨mT 1,rfl,λ_ _=>⟨(),rfl,trivial⟩⟩) (λe=>absurd e (by simp)));obtain⟨c1,c2⟩:=c;obtain⟨a,ha⟩:=yD c1;obtain⟨a1,a2,a3,a4⟩:=hok a (y5p ha);have hw:0<=zF a.s 0 8/\zF a.s 0 8<=8:=yPd Z8;have hw1:zF a.s 0 8-1=aj.wrap (zF a.s 0 8-1):=(w64 oM).symm;have hbl:(ByI.mk p a k).r.length<=100:=yNl hpx Z9;refine⟨⟨oM,oM⟩,a.s,y3k ha,⟨a.s,0,8⟩,rfl,rfl,rfl,⟨a2,y6d rfl,y6d rfl,y6d rfl⟩,λ_ _=>⟨⟨oM,oM⟩,a.kind,a.s,a.n,a.c.kind,a.c.id,a.c.inst,a.c.side,a.c.price,a.c.qty,a.c.least,a.c.time,sb a.c.label,bE a.b,yXu ha,⟨p,a,k⟩,rF8 (rF8 (rF8 ⟨rfl,⟨hpx,⟨a1,a2,a3,a4⟩,Z9⟩,λ_ _=>⟨⟨x,o,d,[],[]⟩,rF8 (rF8 ⟨rfl,AnR p x d (zF a.s 0 8-1) (ByI.mk p a k).r,?_,?_⟩)⟩⟩))⟩⟩
 ·exact⟨⟨o,x,p,d,zF a.s 0 8-1,(ByI.mk p a k).r⟩,hw1,rF8 (rF6 (rF3 ⟨rfl,⟨⟨hM,hB⟩,Z9,⟨Z9,Z9⟩,⟨hq1,Z9⟩,Z9,Z9⟩,λo2 hb=>⟨⟨x,o2,d,_,[]⟩,rfl,rfl,rfl,rfl,rfl,rfl,rfl,rfl,rfl,rfl,rfl,rfl,rfl,rfl,rfl,rfl,rfl,rfl,rfl,AnR.bad hb.2 hB hb.1 _,k0q⟩,λo2 hg=>⟨⟨_,o2,_,_,_⟩,rfl,rfl,rfl,rfl,rfl,rfl,rfl,rfl,rfl,rfl,rfl,rfl,rfl,rfl,rfl,rfl,rfl,rfl,rfl,AnR.good hM hB hbl hg.1 hg.2,k0q⟩⟩))⟩
 rintro⟨x2,o2,d2,O,N⟩ ⟨⟨hM2,hB2,hq3,hq4,hR2,hd2,_,_⟩,hcase⟩;dsimp only at hM2 hB2 hq3 hq4 hR2 hd2 hcase ⊢;rw[<- hw1];generalize hs0:zF a.s 0 8-1=s0 at*;generalize hb0:(ByI.mk p a k).r=b0 at*;refine⟨⟨s0,b0⟩,rfl,rfl,Z9,λ_ _=>Cv.cnd.mk (λe=> ?_) (λe=> ?_)⟩
 ·have e:(zS s0 b0).2≠0:=by simpa using e
  rcases hcase with⟨_,rfl⟩|⟨e0,_⟩
  ·exact⟨⟨x2,o2,d2,g,k+1⟩,rfl,wjn oM,rF8 (rF8 (rF8 (rF4 ⟨rfl,⟨⟨Z9,Z9⟩,⟨hM2,hB2⟩,⟨Z9,Z9⟩,⟨Z9,Z9⟩,hG,hRl⟩,Z9,k0q⟩)))⟩
  ·exact absurd e0 e
 ·have e:(zS s0 b0).2=0:=by simpa using e
  rcases hcase with⟨e0,_⟩|⟨_,hx,hO⟩
  ·exact absurd e e0
  have hs8:=z3l e;have hls:=yRa (n:=s0) oM;have hOl:O.length<=1503000003:=by rw[hO];exact yFy (hM.s.wf hB) _ _ _ _
  have hx2R:x2.R=x.R++[jO s0 b0]:=by rw[hx];rfl
  have hx2l:x2.R.length=x.R.length+1:=by rw[hx2R,y5d];rfl
  have hgd:x2.R.getD x.R.length []=jO s0 b0:=by rw[hx2R];exact yDp _ _ _
  have hrl:(jO s0 b0).length=b0.length+1:=rfl;have hRl2:∀r∈x2.R,r.length<=101:=λr hr=>by
   rw[hx2R,y6j,y6r]at hr;rcases hr with hr|rfl
   ·exact hRl r hr
   ·omega
  have hlr:(bE (jO s0 b0)).length=b0.length+1:=by rw[yK];rfl
  have wl:aj.wrap ((b0.length:Int)+1)=b0.length+1:=w64 oM;have wc:aj.wrap ((lob s0).toNat:Int)=s0:=by rw[hls];exact w64 oM
  refine⟨⟨⟨p,y6 p x2.B,x2.q,x2.R⟩,x.R.length⟩,rF8 (rF3 ⟨rfl,⟨⟨Z9,Z9⟩,Z9,λr hr=>y8a (hRl2 r hr) Z8⟩,λ_ _=> ?_⟩)⟩;dsimp only;rw[y5x,hgd,hlr,yK,wl];refine⟨ak,λb=>b=ak,Cv.cnd.mk (λe1=>absurd e1 (by simp)) (λ_=>⟨⟨oM,oM⟩,(lob s0).toNat,uU rfl,Cv.cnd.mk (λe1=>absurd e1 (by rw[wc];simp)) (λ_=>⟨⟨oM,oM⟩,⟨b0.toArray⟩,rfl,nI b0,⟨b0.toArray⟩,rfl,nI b0,ak,by simp,rfl,k0q⟩)⟩),?_⟩;rintro _ rfl;refine Cv.cnd.mk (λe1=>absurd e1 Bool.false_ne_true) (λ_=>⟨⟨oM,oM⟩,(lob s0).toNat,uU rfl,⟨oM,oM⟩,⟨⟨g,x.W⟩,p,x.B,x.U,s0,b0,x.X p s0 b0⟩,wc.symm,rfl,rfl,⟨⟨hG,hB⟩,Z9,rfl⟩,λo3 ho3=>Cv.cnd.mk (λe1=>absurd e1 (by rw[hO];simp)) (λ_=>⟨⟨O,N,(x.X p s0 b0).O,0⟩,rF3 ⟨rfl,λj=>j.O=O/\j.N=N/\j.O2=O/\j.m<=O.length,λj=>O.length-j.m,⟨rfl,rfl,hO.symm,y6l _⟩,?_⟩⟩)⟩);rintro⟨O1,N1,O2,m⟩ ⟨h1,h2,h3,hm⟩;dsimp only at h1 h2 h3 hm ⊢;rw[h1,h2,h3];have hol:(O.map qA).length=O.length:=y5f _;refine zH (λc=> ?_) (λc=> ?_)
  ·obtain⟨y,hy⟩:=yD (l:=O) (i:=m) oM;have hy9:=y4x hy;exact⟨⟨oM,oM⟩,_,_,_,_,_,_,_,_,_,hy9,⟨oM,oM⟩,_,_,_,_,_,_,_,_,_,hy9,Cv.cnd.mk (λe1=>absurd e1 (by simp)) (λ_=>⟨⟨O,N,O,m+1⟩,wjN oM,rfl,rfl,rfl,(rF3 Z9),Z9,k0q⟩)⟩
  ·have hWW:x2.W=(x.X p s0 b0).W:=by rw[hx];rfl
   exact⟨⟨x2,o2,d2,o3,k+1⟩,by dsimp only;rw[hx2l];exact wjn oM,wjn oM,rF8 (rF8 (rF8 (rF3 ⟨rfl,by dsimp only;rw[hWW],⟨⟨Z9,Z9⟩,⟨hM2,hB2⟩,⟨Z9,Z9⟩,⟨Z9,Z9⟩,by dsimp only;rw[hx];exact ho3,hRl2⟩,Z9,k0q⟩)))⟩
end Sx
