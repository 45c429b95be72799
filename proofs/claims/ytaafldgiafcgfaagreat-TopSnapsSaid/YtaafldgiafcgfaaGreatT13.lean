/- Texts of ours. No condition. -/
import Derived.Test.YtaafldgiafcgfaaGreatT12
set_option linter.all false
open List renaming map->aa,length->ab,take->ac,drop->ae,replicate->af
open Sx.AObj renaming fro->ag,cells->aj,adt->ak,own->am
open Bool renaming false->ao,true->ap
open Go.IntKind renaming i64->aq,u8->ar
open Int renaming toNat->au
open Option renaming some->av
open Go.Value renaming string->aw
open Go renaming Value->ax,TypeId->ay
namespace Sx
set_option maxRecDepth 100000
open Go Cv Go.Proofs
def zJg (a:Nat) (b:Nat) (c:BsI) (d:Nat->Prop) (e:Nat->Nat):Prop:=(↑a:Int)=aq.wrap ((↑b:Int)+1)/\dh ((zY c.l c.s).fst.price)/\dh ((zY c.l c.s).fst.qty)/\dh ((zY c.l c.s).fst.a.inst)/\dh ((zY c.l c.s).fst.a.side)/\dh ((zY c.l c.s).fst.b.inst)/\dh ((zY c.l c.s).fst.b.side)/\d a/\e a<e b/\True
def kA (a:Nat) (b:BsI):=(dN (ac a b.l) (zY b.l b.s).fst)
def ySt (i:BsI):Prop:=
 ∃(a:BsI),aa zJ a.l=aa zJ i.l/\a.s=i.s/\(fD a)/\∀(b:Unit),True->cnd (!(zY a.l a.s).snd) (∃(c:Unit),(qM i.l i.s).fst.price=0/\(qM i.l i.s).fst.qty=0/\(qM i.l i.s).fst.count=0/\(qM i.l i.s).snd=ao/\True) (∃(c:Nat),(kA c i).fst=(zY a.l a.s).fst.qty/\(kA c i).snd=0/\(↑c:Int)=0/\(zY i.l i.s).fst.price=(zY a.l a.s).fst.price/\(zY i.l i.s).fst.qty=(zY a.l a.s).fst.qty/\(zY i.l i.s).fst.a.inst=(zY a.l a.s).fst.a.inst/\(zY i.l i.s).fst.a.side=(zY a.l a.s).fst.a.side/\(zY i.l i.s).fst.b.inst=(zY a.l a.s).fst.b.inst/\(zY i.l i.s).fst.b.side=(zY a.l a.s).fst.b.side/\∃(d:Nat->Prop),∃(e:Nat->Nat),d c/\∀(f:Nat),d f->cnd (decide ((↑f:Int)<(uI i))) ((0<=(↑f:Int)/\(↑f:Int)<(uI i))/\∃(g:Int),∃(h:Int),∃(j:Int),∃(k:Int),∃(l:Int),∃(m:Int),zE (aa zJ i.l) (↑f:Int).toNat 0 6=av [dI g,dI h,dI j,dI k,dI l,dI m]/\cnd (g==(zY i.l i.s).fst.price) (∃(n:Nat),((kA n i).fst=if h>(kA f i).fst then h else(kA f i).fst)/\(kA n i).snd=aq.wrap ((kA f i).snd+1)/\zJg n f i d e) (∃(n:Nat),(kA n i).fst=(kA f i).fst/\(kA n i).snd=(kA f i).snd/\zJg n f i d e)) (∃(g:Unit),(qM i.l i.s).fst.price=(zY i.l i.s).fst.price/\(qM i.l i.s).fst.qty=(kA f i).fst/\(qM i.l i.s).fst.count=(kA f i).snd/\(qM i.l i.s).snd=ap/\True))
def uL (a:Nat) (b:LkI):=(ac a (yY b.p b.B))
def zMk (a:Nat) (b:MSt) (c:LkI) (d:Nat->Prop) (e:Nat->Nat):Prop:=((0:Int)<=(0:Int)/\0<(↑(2:Nat):Int))/\∃(f:Int),zE [[dI 1],[dI 2]] (au 0) 0 1=av [dI f]/\∃(g:SoI),g.inst=(↑a:Int)/\zD g.sd=f/\zC g.s=zC b/\(g.s.Rep g.p g.B/\g.B.length<=1000)/\∀(h:Unit),True->∃(j:eZ),sb j.i.p.code=sb c.p.code/\iE j.i.p.months=iE c.p.months/\j.i.p.tick=c.p.tick/\j.i.p.low=c.p.low/\j.i.p.high=c.p.high/\j.i.p.wide=c.p.wide/\j.i.p.rule=c.p.rule/\j.i.p.top=c.p.top/\j.i.p.least=c.p.least/\j.i.p.part=c.p.part/\iE j.i.p.settle=iE c.p.settle/\aa z7 j.i.tops=aa z7 (aa qH c.B)/\j.i.inst=(↑a:Int)/\zD j.s=f/\(qV j)/\∀(k:Unit),True->∃(l:BsI),aa zJ l.l=aa zJ (xL j.i (zD j.s))/\l.s=f/\(fD l)/\∀(m:Unit),True->(uZ)/\∃(n:Int),zE [[dI 1],[dI 2]] (aq.wrap ((0:Int)+(1:Int))).toNat 0 1=av [dI n]/\∃(p:SoI),p.inst=(↑a:Int)/\zD p.sd=n/\zC p.s=zC g.s/\(p.s.Rep p.p p.B/\p.B.length<=1000)/\∀(q:Unit),True->∃(r:eZ),sb r.i.p.code=sb c.p.code/\iE r.i.p.months=iE c.p.months/\r.i.p.tick=c.p.tick/\r.i.p.low=c.p.low/\r.i.p.high=c.p.high/\r.i.p.wide=c.p.wide/\r.i.p.rule=c.p.rule/\r.i.p.top=c.p.top/\r.i.p.least=c.p.least/\r.i.p.part=c.p.part/\iE r.i.p.settle=iE c.p.settle/\aa z7 r.i.tops=aa z7 (aa qH c.B)/\r.i.inst=(↑a:Int)/\zD r.s=n/\(qV r)/\∀(s:Unit),True->∃(t:BsI),aa zJ t.l=aa zJ (xL r.i (zD r.s))/\t.s=n/\(fD t)/\∀(u:Unit),True->((aa zP (uL a c)).length+1)*(112:Nat)<=(140737488355328:Nat)/\∃(v:Nat),(↑v:Int)=aq.wrap ((↑a:Int)+1)/\aa zP (uL v c)=aa zP (uL a c)++[[D.ro 3 (aa lvE (cC g)),dI ((qM l.l l.s).fst.price),dI ((qM l.l l.s).fst.qty),dI ((qM l.l l.s).fst.count),D.v (.bool (qM l.l l.s).snd),D.ro 3 (aa lvE (cC p)),dI ((qM t.l t.s).fst.price),dI ((qM t.l t.s).fst.qty),dI ((qM t.l t.s).fst.count),D.v (.bool (qM t.l t.s).snd)]]/\dh (ag 6 (aa z7 (aa qH c.B)))/\d v/\e v<e a/\zC p.s=zC b/\dh (aj Vdect316.cl 71)/\dh (aj [V.d (D.v (aw (sb c.p.code))),V.own 1,V.d (dI c.p.tick),V.d (dI c.p.low),V.d (dI c.p.high),V.d (dI c.p.wide),V.d (dI c.p.rule),V.d (dI c.p.top),V.d (dI c.p.least),V.d (dI c.p.part),V.own 2] 25)/\dh (ag 1 (iE c.p.settle))/\dh (ag 1 (iE c.p.months))
def yTy (i:LkI):Prop:=
 ∃(a:Prd),sb a.code=sb i.p.code/\iE a.months=iE i.p.months/\a.tick=i.p.tick/\a.low=i.p.low/\a.high=i.p.high/\a.wide=i.p.wide/\a.rule=i.p.rule/\a.top=i.p.top/\a.least=i.p.least/\a.part=i.p.part/\iE a.settle=iE i.p.settle/\(zX a)/\∀(b:Unit),True->cnd (a.check !=0) (∃(c:Unit),aa zP (yY i.p i.B)=[]/\dh (zC i.s)/\True) (∃(c:MSt),zC c=zC i.s/\(u7 c)/\∀(d:Unit),True->∃(e:Prd),sb e.code=sb i.p.code/\iE e.months=iE i.p.months/\e.tick=i.p.tick/\e.low=i.p.low/\e.high=i.p.high/\e.wide=i.p.wide/\e.rule=i.p.rule/\e.top=i.p.top/\e.least=i.p.least/\e.part=i.p.part/\iE e.settle=iE i.p.settle/\(zX e)/\∀(f:Unit),True->∃(g:Nat),(↑g:Int)=0/\aa zP (uL g i)=[]/\aa z7 (aa qH i.B)=aa z7 c.tops/\∃(h:Nat->Prop),∃(j:Nat->Nat),h g/\∀(k:Nat),h k->cnd (decide ((↑k:Int)<(↑e.count:Int))) (zMk k c i h j) (∃(l:Unit),aa zP (yY i.p i.B)=aa zP (uL k i)/\zC i.s=zC c/\True))
def yTe (i:yPc):Prop:=
 cnd ((↑(aa lvE i.x).length:Int) !=(↑(aa lvE i.y).length:Int)) (∃(a:Unit),yHa i.x i.y=ao/\True) (∃(a:Nat),(↑a:Int)=0/\∃(b:Nat->Prop),∃(c:Nat->Nat),b a/\∀(d:Nat),b d->cnd (decide ((↑d:Int)<(↑(aa lvE i.x).length:Int))) (∃(e:Bool),∃(f:Bool->Prop),((0<=(↑d:Int)/\(↑d:Int)<(↑(aa lvE i.x).length:Int))/\∃(g:Int),∃(h:Int),∃(j:Int),zE (aa lvE i.x) (↑d:Int).toNat 0 3=av [dI g,dI h,dI j]/\(0<=(↑d:Int)/\(↑d:Int)<(↑(aa lvE i.y).length:Int))/\∃(k:Int),∃(l:Int),∃(m:Int),zE (aa lvE i.y) (↑d:Int).toNat 0 3=av [dI k,dI l,dI m]/\∃(n:Bool),n=!(g==k && (h==l && (j==m && ap)))/\f n/\True)/\∀(g:Bool),f g->cnd g (∃(h:Unit),yHa i.x i.y=ao/\True) (jU d b c)) (∃(e:Unit),yHa i.x i.y=ap/\True))
def y4c (i:yJk):Prop:=
 ∃(a:yPc),aa lvE a.x=aa lvE i.a.levels/\aa lvE a.y=aa lvE i.b.levels/\(a.x.length<=1099511627776/\a.y.length<=1099511627776)/\∀(b:Unit),True->cnd (yHa a.x a.y) (cnd (i.a.imp.price==i.b.imp.price && (i.a.imp.qty==i.b.imp.qty && (i.a.imp.count==i.b.imp.count && ap))) (∃(c:Unit),yEe i.a i.b=(i.a.has==i.b.has)/\True) (∃(c:Unit),yEe i.a i.b=ao/\True)) (∃(c:Unit),yEe i.a i.b=ao/\True)
def zXa (a:Bool->Prop) (b:Bool) (c:List (List D)) (d:List (List D)) (e:Int) (f:Int) (g:Int) (h:Bool) (j:Int) (k:Int) (l:Int) (m:Bool) (n:List (List D)) (p:List (List D)) (q:Int) (r:Int) (s:Int) (t:Bool) (u:Int) (v:Int) (w:Int) (x:Bool):Prop:=a b/\dh (ag 3 c)/\dh (ag 3 d)/\dh (aj [V.own 4,V.d (dI e),V.d (dI f),V.d (dI g),V.d (D.v (.bool h)),V.own 5,V.d (dI j),V.d (dI k),V.d (dI l),V.d (D.v (.bool m))] 130)/\dh (ag 3 n)/\dh (ag 3 p)/\dh (aj [V.own 1,V.d (dI q),V.d (dI r),V.d (dI s),V.d (D.v (.bool t)),V.own 2,V.d (dI u),V.d (dI v),V.d (dI w),V.d (D.v (.bool x))] 130)
def y2g (i:zUt):Prop:=
 cnd ((↑(aa zP i.v).length:Int) !=(↑(aa zP i.w).length:Int)) (∃(a:Unit),zRq i.v i.w=ao/\True) (∃(a:Nat),(↑a:Int)=0/\∃(b:Nat->Prop),∃(c:Nat->Nat),b a/\∀(d:Nat),b d->cnd (decide ((↑d:Int)<(↑(aa zP i.v).length:Int))) ((0<=(↑d:Int)/\(↑d:Int)<(↑(aa zP i.v).length:Int))/\∃(e:List (List D)),∃(f:Int),∃(g:Int),∃(h:Int),∃(j:Bool),∃(k:List (List D)),∃(l:Int),∃(m:Int),∃(n:Int),∃(p:Bool),zE (aa zP i.v) (↑d:Int).toNat 0 10=av [D.ro 3 e,dI f,dI g,dI h,D.v (.bool j),D.ro 3 k,dI l,dI m,dI n,D.v (.bool p)]/\(0<=(↑d:Int)/\(↑d:Int)<(↑(aa zP i.w).length:Int))/\∃(q:List (List D)),∃(r:Int),∃(s:Int),∃(t:Int),∃(u:Bool),∃(v:List (List D)),∃(w:Int),∃(x:Int),∃(y:Int),∃(z:Bool),zE (aa zP i.w) (↑d:Int).toNat 0 10=av [D.ro 3 q,dI r,dI s,dI t,D.v (.bool u),D.ro 3 v,dI w,dI x,dI y,D.v (.bool z)]/\∃(a_1:Bool),∃(a_2:Bool->Prop),(∃(a_3:yJk),aa lvE a_3.a.levels=e/\a_3.a.imp.price=f/\a_3.a.imp.qty=g/\a_3.a.imp.count=h/\a_3.a.has=j/\aa lvE a_3.b.levels=q/\a_3.b.imp.price=r/\a_3.b.imp.qty=s/\a_3.b.imp.count=t/\a_3.b.has=u/\(a_3.a.levels.length<=1099511627776/\a_3.b.levels.length<=1099511627776)/\∀(a_4:Unit),True->cnd (yEe a_3.a a_3.b) (∃(a_5:yJk),aa lvE a_5.a.levels=k/\a_5.a.imp.price=l/\a_5.a.imp.qty=m/\a_5.a.imp.count=n/\a_5.a.has=p/\aa lvE a_5.b.levels=v/\a_5.b.imp.price=w/\a_5.b.imp.qty=x/\a_5.b.imp.count=y/\a_5.b.has=z/\(a_5.a.levels.length<=1099511627776/\a_5.b.levels.length<=1099511627776)/\∀(a_6:Unit),True->∃(a_7:Bool),a_7=!yEe a_5.a a_5.b/\zXa a_2 a_7 v q r s t u w x y z k e f g h j l m n p) (∃(a_5:Bool),a_5=!false/\zXa a_2 a_5 v q r s t u w x y z k e f g h j l m n p))/\∀(a_3:Bool),a_2 a_3->cnd a_3 (∃(a_4:Unit),zRq i.v i.w=ao/\True) (jU d b c)) (∃(e:Unit),zRq i.v i.w=ap/\True))
def rV (a:zUt):Prop:=(ab a.v<=1099511627776/\∀(b:Sd×Sd),b∈a.v->wY b)/\ab a.w<=1099511627776/\∀(b:Sd×Sd),b∈a.w->wY b
def yGf (i:zUt):Prop:=
 ∃(a:zUt),aa zP a.v=aa zP i.v/\aa zP a.w=aa zP i.w/\(rV a)/\∀(b:Unit),True->∃(c:Unit),zRq i.v i.w=zRq a.v a.w/\True
def yJf (i:DtI):Prop:=
 True/\((aa xP i.d.out).length+1)*(56:Nat)<=(140737488355328:Nat)/\∃(a:Unit),i.d.seq+(↑(1:Nat):Int)=aq.wrap (i.d.seq+1)/\aa xP (i.d.out++wQ i.d.seq [i.m])=aa xP i.d.out++[[dI (aq.wrap (i.d.seq+1)),dI (↑i.m.inst:Int),dI i.m.side,dI i.m.l.price,dI i.m.l.qty,dI i.m.l.count,D.v (.bool i.m.imp)]]/\True
def jD (a:DsI) (b:DsJ):=(a.d.out++wQ a.d.seq b.M)
def pY (a:DsI):Prop:=aj [V.own 4,V.d (dI a.b.imp.price),V.d (dI a.b.imp.qty),V.d (dI a.b.imp.count),V.d (D.v (.bool a.b.has))] 129=aj [V.own 4,V.d (dI a.b.imp.price),V.d (dI a.b.imp.qty),V.d (dI a.b.imp.count),V.d (D.v (.bool a.b.has))] 129/\dh (ag 3 (aa lvE a.b.levels))/\dh (aj [V.own 2,V.d (dI a.a.imp.price),V.d (dI a.a.imp.qty),V.d (dI a.a.imp.count),V.d (D.v (.bool a.a.has))] 129)/\dh (ag 3 (aa lvE a.a.levels))
def zJf (a:DsI) (b:DsJ):Prop:=aj [V.d (dI (a.d.seq+(↑b.M.length:Int))),V.own 7] (230:ay)=aj [V.d (dI (a.d.seq+(↑b.M.length:Int))),V.own 7] (230:ay)/\dh (am zVt 7 (aa xP (jD a b)))/\pY a
def pF (a:Bool->Prop) (b:Bool) (c:DsI) (d:DsJ):Prop:=a b/\zJf c d
def zIu (a:DsI) (b:Int) (c:Int) (d:Bool->Prop) (e:DsJ):Prop:=∃(f:I3),f.side=a.s/\f.x=b/\f.y=c/\True/\∀(g:Unit),True->∃(h:Bool),h=bQ f.side f.x f.y/\pF d h a e
def zAs (a:Bool->Prop) (b:DsI) (c:DsJ):Prop:=∃(d:Bool),d=ap/\pF a d b c
def zIr (a:Lv->Prop) (b:Lv) (c:DsI) (d:DsJ):Prop:=a b/\zJf c d
def zKf (a:DsJ->Prop) (b:DsJ) (c:DsJ->Nat) (d:DsJ) (e:DsI):Prop:=a b/\c b<c d/\pY e
def zHp (a:DsI) (b:DsJ) (c:DtI) (d:DsJ->Prop) (e:DsJ->Nat) (f:DsJ):Prop:=a.d.seq+(↑b.M.length:Int)=c.d.seq+(↑(1:Nat):Int)/\aa xP (jD a b)=aa xP (c.d.out++wQ c.d.seq [c.m])/\zKf d b e f a
def zIa (a:Dfr->Prop) (b:Dfr) (c:DsI):Prop:=a b/\pY c
def mF (a:DtI):Prop:=(-4611686018427387904)<=a.d.seq/\a.d.seq+(↑(1:Nat):Int)<=4611686018427387904/\a.d.out.length+(1:Nat)<=(1000000000:Nat)
def dV (a:DsJ):=(↑(aa lvE a.y).length:Int)
def cG (a:DsJ):Prop:=(0:Int)<=(0:Int)/\0<(dV a)
def g7 (a:DsJ):=(↑(aa lvE a.x).length:Int)
def aY (a:DsJ):Prop:=(0:Int)<=(0:Int)/\0<(g7 a)
def dY (a:DsI):=(a.d.out++wQ a.d.seq (wE a.n a.s a.a a.b))
def dS (a:DsI):=(↑(wE a.n a.s a.a a.b).length:Int)
def yEt (i:DsI):Prop:=
 ∃(a:DsJ),aa lvE a.x=aa lvE i.a.levels/\aa lvE a.y=aa lvE i.b.levels/\i.d.seq+(↑a.M.length:Int)=i.d.seq/\aa xP (jD i a)=aa xP i.d.out/\∃(b:DsJ->Prop),∃(c:DsJ->Nat),b a/\∀(d:DsJ),b d->cnd (decide (aq.wrap ((g7 d)+(dV d))>0)) (∃(e:Bool),∃(f:Bool->Prop),cnd ((dV d)==0) (zAs f i d) (cnd (decide ((g7 d)>0)) ((aY d)/\∃(g:Int),zE (aa lvE d.x) (au 0) 0 1=av [dI g]/\(cG d)/\∃(h:Int),zE (aa lvE d.y) (au 0) 0 1=av [dI h]/\zIu i g h f d) (∃(g:Bool),g=ao/\pF f g i d))/\∀(g:Bool),f g->cnd g ((aY d)/\∃(h:Int),zE (aa lvE d.x) (au 0) 0 1=av [dI h]/\∃(j:DtI),(↑j.m.inst:Int)=(↑i.n:Int)/\j.m.side=i.s/\j.m.l.price=h/\j.m.l.qty=0/\j.m.l.count=0/\j.m.imp=ao/\j.d.seq=i.d.seq+(↑d.M.length:Int)/\aa xP j.d.out=aa xP (jD i d)/\(mF j)/\∀(k:Unit),True->((0:Int)<=(1:Int)/\1<=(g7 d))/\∃(l:DsJ),aa lvE l.x=ae (au 1) (aa lvE d.x)/\aa lvE l.y=aa lvE d.y/\zHp i l j b c d) (∃(h:Bool),∃(j:Bool->Prop),cnd ((g7 d)==0) (zAs j i d) ((cG d)/\∃(k:Int),zE (aa lvE d.y) (au 0) 0 1=av [dI k]/\(aY d)/\∃(l:Int),zE (aa lvE d.x) (au 0) 0 1=av [dI l]/\zIu i k l j d)/\∀(k:Bool),j k->cnd k ((cG d)/\∃(l:Int),∃(m:Int),∃(n:Int),zE (aa lvE d.y) (au 0) 0 3=av [dI l,dI m,dI n]/\∃(p:DtI),(↑p.m.inst:Int)=(↑i.n:Int)/\p.m.side=i.s/\p.m.l.price=l/\p.m.l.qty=m/\p.m.l.count=n/\p.m.imp=ao/\p.d.seq=i.d.seq+(↑d.M.length:Int)/\aa xP p.d.out=aa xP (jD i d)/\(mF p)/\∀(q:Unit),True->((0:Int)<=(1:Int)/\1<=(dV d))/\∃(r:DsJ),aa lvE r.x=aa lvE d.x/\aa lvE r.y=ae (au 1) (aa lvE d.y)/\zHp i r p b c d) (∃(l:Dfr),l.seq=i.d.seq+(↑d.M.length:Int)/\aa xP l.out=aa xP (jD i d)/\∃(m:Dfr->Prop),(∃(n:Bool),∃(p:Bool->Prop),((aY d)/\∃(q:Int),∃(r:Int),∃(s:Int),zE (aa lvE d.x) (au 0) 0 3=av [dI q,dI r,dI s]/\(cG d)/\∃(t:Int),∃(u:Int),∃(v:Int),zE (aa lvE d.y) (au 0) 0 3=av [dI t,dI u,dI v]/\∃(w:Bool),w=!(q==t && (r==u && (s==v && ap)))/\p w/\dh (aj [V.d (dI l.seq),V.own 9] (230:ay))/\dh (am zVt 7 (aa xP l.out))/\pY i)/\∀(q:Bool),p q->cnd q ((cG d)/\∃(r:Int),∃(s:Int),∃(t:Int),zE (aa lvE d.y) (au 0) 0 3=av [dI r,dI s,dI t]/\∃(u:DtI),(↑u.m.inst:Int)=(↑i.n:Int)/\u.m.side=i.s/\u.m.l.price=r/\u.m.l.qty=s/\u.m.l.count=t/\u.m.imp=ao/\u.d.seq=l.seq/\aa xP u.d.out=aa xP l.out/\(mF u)/\∀(v:Unit),True->∃(w:Dfr),w.seq=u.d.seq+(↑(1:Nat):Int)/\aa xP w.out=aa xP (u.d.out++wQ u.d.seq [u.m])/\zIa m w i) (∃(r:Dfr),r.seq=l.seq/\aa xP r.out=aa xP l.out/\zIa m r i))/\∀(n:Dfr),m n->((0:Int)<=(1:Int)/\1<=(g7 d))/\((0:Int)<=(1:Int)/\1<=(dV d))/\∃(p:DsJ),aa lvE p.x=ae (au 1) (aa lvE d.x)/\aa lvE p.y=ae (au 1) (aa lvE d.y)/\i.d.seq+(↑p.M.length:Int)=n.seq/\aa xP (jD i p)=aa xP n.out/\zKf b p c d i))) (∃(e:Bool),∃(f:Bool->Prop),cnd (!(i.a.imp.price==i.b.imp.price && (i.a.imp.qty==i.b.imp.qty && (i.a.imp.count==i.b.imp.count && ap)))) (zAs f i d) (∃(g:Bool),g=!i.a.has==i.b.has/\pF f g i d)/\∀(g:Bool),f g->cnd g (∃(h:Lv),h.price=i.b.imp.price/\h.qty=i.b.imp.qty/\h.count=i.b.imp.count/\∃(j:Lv->Prop),cnd (!i.b.has) (∃(k:Lv),k.price=0/\k.qty=0/\k.count=0/\zIr j k i d) (∃(k:Lv),k.price=h.price/\k.qty=h.qty/\k.count=h.count/\zIr j k i d)/\∀(k:Lv),j k->∃(l:DtI),(↑l.m.inst:Int)=(↑i.n:Int)/\l.m.side=i.s/\l.m.l.price=k.price/\l.m.l.qty=k.qty/\l.m.l.count=k.count/\l.m.imp=ap/\l.d.seq=i.d.seq+(↑d.M.length:Int)/\aa xP l.d.out=aa xP (jD i d)/\(mF l)/\∀(m:Unit),True->∃(n:Unit),i.d.seq+(dS i)=l.d.seq+(↑(1:Nat):Int)/\aa xP (dY i)=aa xP (l.d.out++wQ l.d.seq [l.m])/\True) (∃(h:Unit),i.d.seq+(dS i)=i.d.seq+(↑d.M.length:Int)/\aa xP (dY i)=aa xP (jD i d)/\True))
def zHy (a:DsI):Prop:=(-4611686018427387904)<=a.d.seq/\a.d.seq+(↑(a.a.levels.length+a.b.levels.length+1):Int)<=4611686018427387904/\a.d.out.length+(a.a.levels.length+a.b.levels.length+1)<=1000000000
def pT (a:DvI) (b:Nat):=([]++wQ a.seq (j9 0 (ac b a.v) (ac b a.w)))
def zBa (a:Nat) (b:DvI):=(↑(j9 0 (ac a b.v) (ac a b.w)).length:Int)
def nQ (a:DvI):=(↑(aa zP a.v).length:Int)
def ySn (i:DvI):Prop:=
 cnd ((nQ i) !=(↑(aa zP i.w).length:Int)) (∃(a:Unit),aa xP (wQ i.seq (j9 0 i.v i.w))=[]/\True) (∃(a:Nat),(↑a:Int)=0/\i.seq+(zBa a i)=i.seq/\aa xP (pT i a)=[]/\∃(b:Nat->Prop),∃(c:Nat->Nat),b a/\∀(d:Nat),b d->cnd (decide ((↑d:Int)<(nQ i))) (((0:Int)<=(0:Int)/\0<(↑(2:Nat):Int))/\∃(e:Int),zE [[dI 1],[dI 2]] (au 0) 0 1=av [dI e]/\(0<=(↑d:Int)/\(↑d:Int)<(nQ i))/\∃(f:List (List D)),∃(g:Int),∃(h:Int),∃(j:Int),∃(k:Bool),zE (aa zP i.v) (↑d:Int).toNat 0 5=av [D.ro 3 f,dI g,dI h,dI j,D.v (.bool k)]/\(0<=(↑d:Int)/\(↑d:Int)<(↑(aa zP i.w).length:Int))/\∃(l:List (List D)),∃(m:Int),∃(n:Int),∃(p:Int),∃(q:Bool),zE (aa zP i.w) (↑d:Int).toNat 0 5=av [D.ro 3 l,dI m,dI n,dI p,D.v (.bool q)]/\∃(r:DsI),(↑r.n:Int)=(↑d:Int)/\r.s=e/\aa lvE r.a.levels=f/\r.a.imp.price=g/\r.a.imp.qty=h/\r.a.imp.count=j/\r.a.has=k/\aa lvE r.b.levels=l/\r.b.imp.price=m/\r.b.imp.qty=n/\r.b.imp.count=p/\r.b.has=q/\r.d.seq=i.seq+(zBa d i)/\aa xP r.d.out=aa xP (pT i d)/\(zHy r)/\∀(s:Unit),True->(uZ)/\∃(t:Int),zE [[dI 1],[dI 2]] (aq.wrap ((0:Int)+(1:Int))).toNat 0 1=av [dI t]/\(0<=(↑d:Int)/\(↑d:Int)<(nQ i))/\∃(u:List (List D)),∃(v:Int),∃(w:Int),∃(x:Int),∃(y:Bool),zE (aa zP i.v) (↑d:Int).toNat 5 5=av [D.ro 3 u,dI v,dI w,dI x,D.v (.bool y)]/\(0<=(↑d:Int)/\(↑d:Int)<(↑(aa zP i.w).length:Int))/\∃(z:List (List D)),∃(a_1:Int),∃(a_2:Int),∃(a_3:Int),∃(a_4:Bool),zE (aa zP i.w) (↑d:Int).toNat 5 5=av [D.ro 3 z,dI a_1,dI a_2,dI a_3,D.v (.bool a_4)]/\∃(a_5:DsI),(↑a_5.n:Int)=(↑d:Int)/\a_5.s=t/\aa lvE a_5.a.levels=u/\a_5.a.imp.price=v/\a_5.a.imp.qty=w/\a_5.a.imp.count=x/\a_5.a.has=y/\aa lvE a_5.b.levels=z/\a_5.b.imp.price=a_1/\a_5.b.imp.qty=a_2/\a_5.b.imp.count=a_3/\a_5.b.has=a_4/\a_5.d.seq=r.d.seq+(dS r)/\aa xP a_5.d.out=aa xP (dY r)/\(zHy a_5)/\∀(a_6:Unit),True->∃(a_7:Nat),(↑a_7:Int)=aq.wrap ((↑d:Int)+1)/\i.seq+(zBa a_7 i)=a_5.d.seq+(dS a_5)/\aa xP (pT i a_7)=aa xP (dY a_5)/\b a_7/\c a_7<c d/\dh (aj [V.own 2] 71)/\dh (ag 10 (aa zP i.w))/\dh (aj [V.own 0] 71)/\dh (ag 10 (aa zP i.v))) (∃(e:Unit),aa xP (wQ i.seq (j9 0 i.v i.w))=aa xP (pT i d)/\True))
open Classical
def zRd {l:List Quote} {k:Nat} {q:Quote} (b:Quote) (h:l[k]? =av q):dN (l.take (k+1)) b=if q.price=b.price then(if q.qty>(dN (l.take k) b).1 then q.qty else(dN (l.take k) b).1,(dN (l.take k) b).2+1)else dN (l.take k) b:=by
 rw[dN,y9g,h,xBb,xCx,xBt,List.foldl_nil];rfl
def zYo (b:Quote) (l:List Quote):∀k,k<=l.length->0<=(dN (l.take k) b).2/\(dN (l.take k) b).2<=k
 |0,_=>⟨by rw[xCo];exact xBo 0,by rw[xCo];exact xBo 0⟩
 |k+1,h=>by
  obtain⟨q,hq⟩:=yC (l:=l) (i:=k) oM;have:=zYo b l k oM;rw[zRd b hq];split
  ·dsimp only;constructor<;>omega
  ·constructor<;>omega
def y3x (i:BsI) (h:showC.cnd i):ySt i:=by
 obtain⟨hs,hl⟩:(i.s=1\/i.s=2)/\i.l.length<=1000000:=h;have hml:(i.l.map zJ).length=i.l.length:=y8b _;unfold ySt kA zJg fD uI dI;rw[hml];refine⟨i,rfl,rfl,⟨hs,hl⟩,λ_ _=>Cv.cnd.mk (λc=> ?_) (λc=> ?_)⟩
 ·have e:qM i.l i.s=(⟨0,0,0⟩,ao):=by rw[qM,y7z (by simpa using c)]
  rw[e];exact⟨(),k0q⟩
 have e:qM i.l i.s=(⟨(zY i.l i.s).1.price,(dN i.l (zY i.l i.s).1).1,(dN i.l (zY i.l i.s).1).2⟩,ap):=by rw[qM,y8c (by simpa using c)]
 rw[e];generalize (zY i.l i.s).1=b;refine⟨0,rF8 ⟨rfl,λk=>k<=i.l.length,λk=>i.l.length-k,y9c _,λk hk=>zI (λhlt=> ?_) (λhlt=> ?_)⟩⟩
 ·obtain⟨q,hq⟩:=yC (l:=i.l) (i:=k) oM;have st:=zRd b hq;have bd:=zYo b i.l k hk;have hk:k<=i.l.length:=hk;refine⟨⟨oM,oM⟩,q.price,q.qty,q.a.inst,q.a.side,q.b.inst,q.b.side,elA hq (by simp[zJ]) rfl,Cv.cnd.mk (λe=>⟨k+1,?_⟩) (λe=>⟨k+1,?_⟩)⟩
  ·rw[st,y8c (by simpa using e)];exact⟨rfl,by dsimp only;rw[w64 (by omega)],wjn oM,rF5 ⟨rfl,Z9,Z9,trivial⟩⟩
  ·rw[st,y7z (by simpa using e)];exact⟨rfl,rfl,wjn oM,rF5 ⟨rfl,Z9,Z9,trivial⟩⟩
 ·have hk:k<=i.l.length:=hk;obtain rfl:k=i.l.length:=by omega
  rw[xAx];exact⟨(),k0q⟩
def z7k:showC.ok Tryz.prog 80:=okw mixed (gokc zZn gok0) 0 (λ_=>[]) (λi=>yXy i) [] Tryz.func80 y3x
def zAr (p:Prd) (B:List (List zH)):(yY p B).length=p.count:=by rw[yY,y8b,List.length_range]
def zUk (p:Prd) (B:List (List zH)) {j:Nat} (h:j<p.count):(yY p B)[j]? =av (zHc p B j 1,zHc p B j 2):=by
 rw[yY,y9r,xCi h];rfl
def y4b (i:LkI) (h:lookC.cnd i):yTy i:=by
 obtain⟨hR,hB⟩:i.s.Rep i.p i.B/\BOk i.p i.B:=h;have hcl:=xJ i.p;have hbl:=hB.bl;have hcnt:i.s.cntOk:=hR.cnt oM;have hto:vG (i.B.map qH):=hB.tops;have hll:=zAr i.p i.B;unfold yTy u7 zMk uZ cC qV u6 fD Vdect316 kF uL zX dI;refine⟨i.p,rF7 (rF3 ⟨rfl,hB.ps,λ_ _=>Cv.cnd.mk (λc=>absurd hB.pc (by simpa using c)) (λ_=>⟨i.s,rfl,hcnt,λ_ _=>⟨i.p,rF7 (rF3 ⟨rfl,hB.ps,λ_ _=>⟨0,rfl,rfl,by rw[hR.tops],λj=>j<=i.p.count,λj=>i.p.count-j,y9c _,λj hj=>zI (λhlt=> ?_) (λhlt=> ?_)⟩⟩)⟩⟩)⟩)⟩
 ·have hlt:j<i.p.count:=by omega
  have hat:atB i.B (j:Int)=i.B.getD j []:=by rw[atB,y7z (by omega),y8s]
  have hq:∀s,(xL ⟨i.p,i.B.map qH,j⟩ s).length<=1000000:=λs=>xAw (lB _ _) Z8
  refine⟨⟨Z8,Z8⟩,1,rfl,⟨i.s,i.p,i.B,j,ao⟩,rfl,rfl,rfl,⟨hR,Z9⟩,λ_ _=>⟨⟨⟨i.p,i.B.map qH,j⟩,ao⟩,rF8 (rF5 ⟨rfl,⟨hB.ps,hto⟩,λ_ _=>⟨⟨xL ⟨i.p,i.B.map qH,j⟩ 1,1⟩,rfl,rfl,⟨.inl rfl,hq 1⟩,λ_ _=>⟨⟨Z8,Z8⟩,2,rfl,⟨i.s,i.p,i.B,j,ap⟩,rfl,rfl,rfl,⟨hR,Z9⟩,λ_ _=>⟨⟨⟨i.p,i.B.map qH,j⟩,ap⟩,rF8 (rF5 ⟨rfl,⟨hB.ps,hto⟩,λ_ _=>⟨⟨xL ⟨i.p,i.B.map qH,j⟩ 2,2⟩,rfl,rfl,⟨.inr rfl,hq 2⟩,λ_ _=>⟨?_,j+1,wjn oM,?_,rfl,Z9,Z9,rfl,k0q⟩⟩⟩)⟩⟩⟩⟩)⟩⟩
  ·rw[y8b,y8t];omega
  ·rw[y9g,zUk i.p i.B hlt,xBb,y8k,y8p,xBq];dsimp only;rw[hat];rfl
 ·have hj:j<=i.p.count:=hj;rw[y8l (by omega)];exact⟨(),k0q⟩
def look_ok:lookC.ok Tryz.prog 29:=okw mixed (gokc pN (gokc z7o (gokc cJ (gokc z8y (gokc zHh (gokc z7k gok0)))))) 1 (λ_=>[]) (λi=>yRv i) [] Tryz.func29 y4b
def zTn {α:Type} {x y:List α} {k:Nat} {a b:α} (ha:x[k]? =av a) (hb:y[k]? =av b) (h:x.take k=y.take k) (e:a=b):x.take (k+1)=y.take (k+1):=by rw[y9g,y9g,h,ha,hb,e]
def z1c (a b:Lv):(a.price==b.price && (a.qty==b.qty && (a.count==b.count && ap)))=decide (a=b):=by
 rw[xCv,decide_eq_true_iff];obtain⟨p,q,c⟩:=a;obtain⟨p2,q2,c2⟩:=b;simp
def y4o (i:yPc) (h:eqLvC.cnd i):yTe i:=by
 obtain⟨hx,hy⟩:i.x.length<=1099511627776/\i.y.length<=1099511627776:=h;have hmx:(i.x.map lvE).length=i.x.length:=y8b _;have hmy:(i.y.map lvE).length=i.y.length:=y8b _;unfold yTe jU qW dI;rw[hmx,hmy];refine Cv.cnd.mk (λc=>⟨(),y8n (λe=>by rw[e]at c;simp at c),trivial⟩) (λc=> ?_);have hxy:i.x.length=i.y.length:=by have:(i.x.length:Int)=i.y.length:=(by simpa using c);omega
 refine⟨0,rfl,λk=>k<=i.x.length/\i.x.take k=i.y.take k,λk=>i.x.length-k,⟨y9c _,rfl⟩,λk hk=>zI (λe=> ?_) (λe=> ?_)⟩
 ·obtain⟨hk1,hk2⟩:=hk;obtain⟨a,ha⟩:=yC (l:=i.x) (i:=k) oM;obtain⟨b,hb⟩:=yC (l:=i.y) (i:=k) oM;refine⟨ao,λt=>t= !decide (a=b),⟨⟨oM,oM⟩,a.price,a.qty,a.count,elA ha (by simp[lvE]) rfl,⟨oM,oM⟩,b.price,b.qty,b.count,elA hb (by simp[lvE]) rfl,_,rfl,?_,trivial⟩,?_⟩
  ·rw[z1c a b]
  ·rintro _ rfl;refine Cv.cnd.mk (λc=>⟨(),y8n (λe2=> ?_),trivial⟩) (λc=>⟨k+1,by rw[w64 (by omega)];rfl,⟨oM,zTn ha hb hk2 (by simpa using c)⟩,Z9,trivial⟩);have c:a≠b:=by simpa using c
   rw[e2]at ha;rw[ha]at hb;exact c (Option.some.inj hb)
 ·obtain⟨hk1,hk2⟩:=hk;rw[y8l (by omega),y8l (by omega)]at hk2;exact⟨(),y8r hk2,trivial⟩
def yRh:eqLvC.ok Tryz.prog 120:=okw mixed gok0 0 (λ_=>y1v) (λ_=>y4v) [] Tryz.func120 y4o
def y6m (i:yJk) (h:fsdC.cnd i):y4c i:=by
 obtain⟨⟨al,ai,ah⟩,⟨bl,bi,bh⟩⟩:=i;obtain⟨ha,hb⟩:al.length<=1099511627776/\bl.length<=1099511627776:=h;unfold y4c;refine⟨⟨al,bl⟩,rfl,rfl,⟨ha,hb⟩,λ_ _=>zI (λe=> ?_) (λe=>⟨(),y8n (λx=>e (congrArg Sd.levels x)),trivial⟩)⟩;dsimp only;rw[z1c];refine zI (λe2=>⟨(),?_,trivial⟩) (λe2=>⟨(),y8n (λx=>e2 (congrArg Sd.imp x)),trivial⟩);have e:al=bl:=e;have e2:ai=bi:=e2;subst e e2;show decide ((⟨al,ai,ah⟩:Sd)=⟨al,ai,bh⟩)=(ah==bh);rw[xCv,decide_eq_true_iff,beq_iff_eq];exact⟨λx=>congrArg Sd.has x,λx=>by have x:ah=bh:=x;rw[x]⟩
def yWq:fsdC.ok Tryz.prog 74:=okw mixed (gokc yRh gok0) 0 (λ_=>[]) (λ_=>[]) [] Tryz.func74 y6m
def yEp {v:Vw} {k:Nat} {b:Sd×Sd} (h:v[k]? =av b):zE (v.map zP) k 0 10=av [D.ro 3 (b.1.levels.map lvE),.v (.int .i64 b.1.imp.price),.v (.int .i64 b.1.imp.qty),.v (.int .i64 b.1.imp.count),.v (.bool b.1.has),.ro 3 (b.2.levels.map lvE),.v (.int .i64 b.2.imp.price),.v (.int .i64 b.2.imp.qty),.v (.int .i64 b.2.imp.count),.v (.bool b.2.has)]/\
 zE (v.map zP) k 0 5=av [D.ro 3 (b.1.levels.map lvE),.v (.int .i64 b.1.imp.price),.v (.int .i64 b.1.imp.qty),.v (.int .i64 b.1.imp.count),.v (.bool b.1.has)]/\
 zE (v.map zP) k 5 5=av [D.ro 3 (b.2.levels.map lvE),.v (.int .i64 b.2.imp.price),.v (.int .i64 b.2.imp.qty),.v (.int .i64 b.2.imp.count),.v (.bool b.2.has)]:=
 ⟨elA h (by simp[zP]) rfl,elA h (by simp[zP]) rfl,elA h (by simp[zP]) rfl⟩
def y6x (i:zUt) (h:eqFC.cnd i):y2g i:=by
 obtain⟨⟨hv,hvs⟩,⟨hw,hws⟩⟩:gR i.v/\gR i.w:=h;have hmx:(i.v.map zP).length=i.v.length:=y8b _;have hmy:(i.w.map zP).length=i.w.length:=y8b _;unfold y2g jU qW zXa dI;rw[hmx,hmy];refine Cv.cnd.mk (λc=>⟨(),y8n (λe=>by rw[e]at c;simp at c),trivial⟩) (λc=> ?_);have hxy:i.v.length=i.w.length:=by have:(i.v.length:Int)=i.w.length:=(by simpa using c);omega
 refine⟨0,rfl,λk=>k<=i.v.length/\i.v.take k=i.w.take k,λk=>i.v.length-k,⟨y9c _,rfl⟩,λk hk=>zI (λe=> ?_) (λe=> ?_)⟩
 ·obtain⟨hk1,hk2⟩:=hk;obtain⟨a,ha⟩:=yC (l:=i.v) (i:=k) oM;obtain⟨b,hb⟩:=yC (l:=i.w) (i:=k) oM;have sa:=hvs a (y8m ha);have sb:=hws b (y8m hb);refine⟨⟨oM,oM⟩,_,_,_,_,_,_,_,_,_,_,(yEp ha).1,⟨oM,oM⟩,_,_,_,_,_,_,_,_,_,_,(yEp hb).1,ao,λt=>t= !decide (a=b),⟨⟨a.1,b.1⟩,rF6 (rF3 ⟨rfl,⟨sa.1,sb.1⟩,λ_ _=>zI (λe1=>⟨⟨a.2,b.2⟩,rF6 (rF3 ⟨rfl,⟨sa.2,sb.2⟩,λ_ _=>⟨_,rfl,?_,k0q⟩⟩)⟩) (λe1=>⟨_,rfl,?_,k0q⟩)⟩)⟩,?_⟩
  ·show(!decide (a.2=b.2))= !decide (a=b);rw[xCv,xBa,xBa,decide_eq_false_iff_not,decide_eq_false_iff_not];exact⟨λx y=>x (by rw[y]),λx y=>x (Prod.ext e1 y)⟩
  ·have e1:¬a.1=b.1:=e1;rw[y8n λx=>e1 (congrArg Prod.fst x)]
  ·rintro _ rfl;refine Cv.cnd.mk (λc=>⟨(),y8n (λe2=> ?_),trivial⟩) (λc=>⟨k+1,by rw[w64 (by omega)];rfl,⟨oM,zTn ha hb hk2 (by simpa using c)⟩,Z9,trivial⟩);have c:a≠b:=by simpa using c
   rw[e2]at ha;rw[ha]at hb;exact c (Option.some.inj hb)
 ·obtain⟨hk1,hk2⟩:=hk;rw[y8l (by omega),y8l (by omega)]at hk2;exact⟨(),y8r hk2,trivial⟩
def yXe:eqFC.ok Tryz.prog 72:=okw mixed (gokc yWq gok0) 1 (λ_=>y7q) (λ_=>y6k) [] Tryz.func72 y6x
def yWi (i:zUt) (h:fsameC.cnd i):yGf i:=by
 unfold yGf rV wY;exact⟨i,rfl,rfl,h,λ_ _=>⟨(),rfl,trivial⟩⟩
def fsame_ok:fsameC.ok Tryz.prog 28:=okw mixed (gokc yXe gok0) 0 (λ_=>[]) (λ_=>[]) [] Tryz.func28 yWi
def zPk (q:Int):∀(A B:List VM),wQ q (A++B)=wQ q A++wQ (q+A.length) B
 |[],B=>by simp[wQ]
 |a::A,B=>by
  rw[y9q,wQ,wQ,zPk,y8f,y9q];congr 3;omega
def zMn (d:Dfr) (A B:List VM):(d.add A).add B=d.add (A++B):=by
 rw[Dfr.add,Dfr.add,Dfr.add,zPk,y8a,y8g];congr 1;dsimp only;omega
def yWr (i:DtI) (h:dtellC.cnd i):yJf i:=by
 obtain⟨h1,h2,h3⟩:i.d.ok 1:=h;unfold yJf dI;have e:aq.wrap (i.d.seq+1)=i.d.seq+1:=w64 oM;rw[e];exact⟨trivial,by rw[y8b];omega,(),rfl,by rw[y8k];rfl,trivial⟩
def yKa:dtellC.ok Tryz.prog 170:=okw mixed gok0 0 (λ_=>[]) (λ_=>[]) [] Tryz.func170 yWr
def pB {s:Int}:∀(k:Nat) (X Y:List Lv),(vW s k X Y).length<=k
 |0,X,Y=>by rw[vW];exact y8w 0
 |k+1,[],[]=>by rw[vW];exact y9c _
 |k+1,x::X,[]=>by rw[vW,y8f];have:=pB (s:=s) k X [];omega
 |k+1,[],y::Y=>by rw[vW,y8f];have:=pB (s:=s) k [] Y;omega
 |k+1,x::X,y::Y=>by
  have h1:=pB (s:=s) k X (y::Y);have h2:=pB (s:=s) k (x::X) Y;have h3:=pB (s:=s) k X Y;rw[vW];split
  ·rw[y8f];omega
  split
  ·rw[y8f];omega
  rw[y8a];split
  ·simp only[y9t];omega
  ·simp only[xAc];omega
def z4t (n:Nat) (s:Int) (a b:Sd):(wE n s a b).length<=a.levels.length+b.levels.length+1:=by
 have:=pB (s:=s) (a.levels.length+b.levels.length) a.levels b.levels;rw[wE,y8a,y8b];split
 ·rw[xAc];omega
 ·simp only[y9t];omega
def zVi:∀(n j:Nat) {v w:Vw} {a b:Sd×Sd},v[j]? =av a->w[j]? =av b->j9 n (v.take (j+1)) (w.take (j+1))=j9 n (v.take j) (w.take j)++(wE (n+j) 1 a.1 b.1++wE (n+j) 2 a.2 b.2)
 |n,0,x::v,y::w,a,b,h1,h2=>by
  obtain rfl:x=a:=by simpa using h1
  obtain rfl:y=b:=by simpa using h2
  simp[j9]
 |n,j+1,x::v,y::w,a,b,h1,h2=>by
  have:=zVi (n+1) j (v:=v) (w:=w) (a:=a) (b:=b) (by simpa using h1) (by simpa using h2);rw[y9l,y9l,y9l,y9l,j9,j9,this,y8g,y8g,y8g,xBs n 1 j,xDj 1 j]
 |_,0,[],_,_,_,h1,_=>by simp at h1
 |_,j+1,[],_,_,_,h1,_=>by simp at h1
 |_,0,_::_,[],_,_,_,h2=>by simp at h2
 |_,j+1,_::_,[],_,_,_,h2=>by simp at h2
def zAh {v:Vw} {j:Nat} {a:Sd×Sd} (h:v[j]? =av a):Vw.levs (v.take (j+1))=Vw.levs (v.take j)+(a.1.levels.length+a.2.levels.length):=by
 rw[Vw.levs,Vw.levs,y9g,h,xBb,y8k,xEf];simp
def z8w (v:Vw) (j:Nat):Vw.levs (v.take j)<=Vw.levs v:=by
 conv=>rhs;rw[<- xAi j v]
 rw[Vw.levs,Vw.levs,y8k,xEf];omega
def yEv (v w:Vw):∀j,j<=v.length->j<=w.length->(j9 0 (v.take j) (w.take j)).length<=Vw.levs (v.take j)+Vw.levs (w.take j)+2*j
 |0,_,_=>by rw[xCo,j9];exact y9c _;simp
 |j+1,h1,h2=>by
  obtain⟨a,ha⟩:=yC (l:=v) (i:=j) oM;obtain⟨b,hb⟩:=yC (l:=w) (i:=j) oM;have:=yEv v w j oM oM;have s1:=z4t (0+j) 1 a.1 b.1;have s2:=z4t (0+j) 2 a.2 b.2;rw[zVi 0 j ha hb,zAh ha,zAh hb,y8a,y8a];omega
def rB (q:Int):∀M:List VM,(wQ q M).length=M.length
 |[]=>rfl
 |m::M=>by rw[wQ,y8f,rB,y8f]
def tl1 (q:Int) (M:List VM) (m:VM):q+((M++[m]).length:Nat)=q+(M.length:Nat)+((1:Nat):Int):=by
 rw[y8a,xAc];omega
def tl2 (o:List z1s) (q:Int) (M:List VM) (m:VM):(o++wQ q (M++[m])).map xP=((o++wQ q M)++wQ (q+(M.length:Nat)) [m]).map xP:=by rw[zPk,y8g]
def lvx (x:Lv) (X:List Lv):zE ((x::X).map lvE) 0 0 1=av [D.v (.int .i64 x.price)]/\zE ((x::X).map lvE) 0 0 3=av [D.v (.int .i64 x.price),.v (.int .i64 x.qty),.v (.int .i64 x.count)]:=⟨rfl,rfl⟩
def yHb (s:Int) (k:Nat):vW s k [] []=[]:=by cases k<;>rw[vW]
def yWk (i:DsI) (h:dsideC.cnd i):yEt i:=by
 obtain⟨d,n,s,⟨al,ai,ah⟩,⟨bl,bi,bh⟩⟩:=i;obtain⟨h1,h2,h3⟩:Dfr.ok d (al.length+bl.length+1):=h;unfold yEt zIa zHp zKf zIr zAs zIu pF zJf pY jD dS dY aY g7 cG dV mF dI;refine⟨⟨al,bl,[]⟩,rfl,rfl,by simp,by simp[wQ],λj=>∃k,j.x.length+j.y.length<=k/\(vW s (al.length+bl.length) al bl).map (λl=>(⟨n,s,l,ao⟩:VM))=j.M++(vW s k j.x j.y).map (λl=>(⟨n,s,l,ao⟩:VM))/\k+j.M.length<=al.length+bl.length,λj=>j.x.length+j.y.length,⟨al.length+bl.length,y8w _,rfl,y8w _⟩,?_⟩;rintro⟨x,y,M⟩ ⟨k,hk,hM,hl⟩;dsimp only at hk hM hl ⊢;have hx:(x.map lvE).length=x.length:=y8b _;have hy:(y.map lvE).length=y.length:=y8b _;have ok1:Dfr.ok ⟨d.seq+(M.length:Nat),d.out++wQ d.seq M⟩ 1:=⟨Z9,Z9,by dsimp only;rw[y8a,rB];omega⟩
 rw[hx,hy,w64 (by omega)];refine zI (λc=> ?_) (λc=> ?_)
 ·obtain⟨k',rfl⟩:∃k',k=k'+1:=⟨k-1,oM⟩
  rcases x with _|⟨a,X⟩
  ·rcases y with _|⟨b,Y⟩
   ·exact absurd c (by simp)
   refine⟨ao,λt=>t=ao,Cv.cnd.mk (λe=> ?_) (λ_=>Cv.cnd.mk (λe=>absurd e (by simp)) (λ_=>⟨ao,rfl,rfl,k0q⟩)),?_⟩
   ·exfalso;simp at e;omega
   rintro _ rfl;refine Cv.cnd.mk (λc=>absurd c Z8) (λ_=>⟨ao,λt=>t=ap,Cv.cnd.mk (λ_=>⟨ap,rfl,rfl,k0q⟩) (λe=>absurd e (by simp)),?_⟩);rintro _ rfl;refine Cv.cnd.mk (λ_=> ?_) (λc=>absurd c Z8);rw[y8f]at hk;refine⟨⟨Z8,by rw[y8f];omega⟩,b.price,b.qty,b.count,(lvx b Y).2,⟨_,⟨n,s,b,ao⟩⟩,rfl,rfl,rfl,rfl,rfl,rfl,rfl,rfl,ok1,λ_ _=>⟨⟨Z8,by rw[y8f];omega⟩,⟨[],Y,M++[⟨n,s,b,ao⟩]⟩,rfl,rfl,tl1 _ _ _,tl2 _ _ _ _,⟨k',Z9,?_,by dsimp only;rw[y8a,xAc];omega⟩,by dsimp only;rw[y8f];omega,k0q⟩⟩;rw[hM,vW,y8p,y8g];rfl
  rcases y with _|⟨b,Y⟩
  ·refine⟨ao,λt=>t=ap,Cv.cnd.mk (λ_=>⟨ap,rfl,rfl,k0q⟩) (λe=>absurd e (by simp)),?_⟩;rintro _ rfl;refine Cv.cnd.mk (λ_=> ?_) (λc=>absurd c Z8);rw[y8f]at hk;refine⟨⟨Z8,by rw[y8f];omega⟩,a.price,(lvx a X).1,⟨_,⟨n,s,⟨a.price,0,0⟩,ao⟩⟩,rfl,rfl,rfl,rfl,rfl,rfl,rfl,rfl,ok1,λ_ _=>⟨⟨Z8,by rw[y8f];omega⟩,⟨X,[],M++[⟨n,s,⟨a.price,0,0⟩,ao⟩]⟩,rfl,rfl,tl1 _ _ _,tl2 _ _ _ _,⟨k',by dsimp only;simp only[y9t]at hk ⊢;omega,?_,by dsimp only;rw[y8a,xAc];omega⟩,by dsimp only;rw[y8f];omega,k0q⟩⟩;rw[hM,vW,y8p,y8g];rfl
  rw[y8f,y8f]at hk;have la:(0:Int)<=0/\(0:Int)<((a::X).length:Nat):=⟨Z8,by rw[y8f];omega⟩
  have lb:(0:Int)<=0/\(0:Int)<((b::Y).length:Nat):=⟨Z8,by rw[y8f];omega⟩
  have la1:(0:Int)<=1/\(1:Int)<=((a::X).length:Nat):=⟨Z8,by rw[y8f];omega⟩
  have lb1:(0:Int)<=1/\(1:Int)<=((b::Y).length:Nat):=⟨Z8,by rw[y8f];omega⟩
  refine⟨ao,λt=>t=btr s a.price b.price,Cv.cnd.mk (λe=> ?_) (λ_=>Cv.cnd.mk (λ_=>⟨la,a.price,(lvx a X).1,lb,b.price,(lvx b Y).1,⟨s,a.price,b.price⟩,rfl,rfl,rfl,trivial,λ_ _=>⟨_,rfl,rfl,k0q⟩⟩) (λe=> ?_)),?_⟩
  ·exfalso;simp at e;omega
  ·exfalso;simp at e
  rintro _ rfl;refine Cv.cnd.mk (λc1=> ?_) (λc1=> ?_)
  ·refine⟨la,a.price,(lvx a X).1,⟨_,⟨n,s,⟨a.price,0,0⟩,ao⟩⟩,rfl,rfl,rfl,rfl,rfl,rfl,rfl,rfl,ok1,λ_ _=>⟨la1,⟨X,b::Y,M++[⟨n,s,⟨a.price,0,0⟩,ao⟩]⟩,rfl,rfl,tl1 _ _ _,tl2 _ _ _ _,⟨k',by dsimp only;rw[y8f];omega,?_,by dsimp only;rw[y8a,xAc];omega⟩,by dsimp only;rw[y8f,y8f];omega,k0q⟩⟩;rw[hM,vW,y8c c1,y8p,y8g];rfl
  have c1:¬btr s a.price b.price=ap:=by simp[c1]
  refine⟨ao,λt=>t=btr s b.price a.price,Cv.cnd.mk (λe=> ?_) (λ_=>⟨lb,b.price,(lvx b Y).1,la,a.price,(lvx a X).1,⟨s,b.price,a.price⟩,rfl,rfl,rfl,trivial,λ_ _=>⟨_,rfl,rfl,k0q⟩⟩),?_⟩
  ·exfalso;simp at e;omega
  rintro _ rfl;refine Cv.cnd.mk (λc2=> ?_) (λc2=> ?_)
  ·refine⟨lb,b.price,b.qty,b.count,(lvx b Y).2,⟨_,⟨n,s,b,ao⟩⟩,rfl,rfl,rfl,rfl,rfl,rfl,rfl,rfl,ok1,λ_ _=>⟨lb1,⟨a::X,Y,M++[⟨n,s,b,ao⟩]⟩,rfl,rfl,tl1 _ _ _,tl2 _ _ _ _,⟨k',by dsimp only;rw[y8f];omega,?_,by dsimp only;rw[y8a,xAc];omega⟩,by dsimp only;rw[y8f,y8f];omega,k0q⟩⟩;rw[hM,vW,y7z c1,y8c c2,y8p,y8g];rfl
  have c2:¬btr s b.price a.price=ap:=by simp[c2]
  by_cases hab:a=b
  ·refine⟨⟨_,_⟩,rfl,rfl,λD=>D=⟨d.seq+(M.length:Nat),d.out++wQ d.seq M⟩,⟨ao,λt=>t=ao,⟨la,a.price,a.qty,a.count,(lvx a X).2,lb,b.price,b.qty,b.count,(lvx b Y).2,_,rfl,by rw[z1c,y8r hab];rfl,k0q⟩,?_⟩,?_⟩
   ·rintro _ rfl;exact Cv.cnd.mk (λc=>absurd c Z8) (λ_=>⟨_,rfl,rfl,rfl,k0q⟩)
   rintro _ rfl;refine⟨la1,lb1,⟨X,Y,M⟩,rF3 ⟨rfl,⟨k',Z9,?_,Z9⟩,by dsimp only;rw[y8f,y8f];omega,k0q⟩⟩;rw[hM,vW,y7z c1,y7z c2,y8c hab];rfl
  ·refine⟨⟨_,_⟩,rfl,rfl,λD=>D=Dfr.add ⟨d.seq+(M.length:Nat),d.out++wQ d.seq M⟩ [⟨n,s,b,ao⟩],⟨ao,λt=>t=ap,⟨la,a.price,a.qty,a.count,(lvx a X).2,lb,b.price,b.qty,b.count,(lvx b Y).2,_,rfl,by rw[z1c,y8n hab];rfl,k0q⟩,?_⟩,?_⟩
   ·rintro _ rfl;exact Cv.cnd.mk (λ_=>⟨lb,b.price,b.qty,b.count,(lvx b Y).2,⟨_,⟨n,s,b,ao⟩⟩,rfl,rfl,rfl,rfl,rfl,rfl,rfl,rfl,ok1,λ_ _=>⟨_,rfl,rfl,rfl,k0q⟩⟩) (λc=>absurd c Z8)
   rintro _ rfl;refine⟨la1,lb1,⟨X,Y,M++[⟨n,s,b,ao⟩]⟩,rfl,rfl,tl1 _ _ _,tl2 _ _ _ _,⟨k',Z9,?_,by dsimp only;rw[y8a,xAc];omega⟩,by dsimp only;rw[y8f,y8f];omega,k0q⟩;rw[hM,vW,y7z c1,y7z c2,y7z hab,y8k,y8g];rfl
 obtain rfl:x=[]:=y9a oM;obtain rfl:y=[]:=y9a oM;rw[yHb,xBq,y8x]at hM;rw[z1c];refine⟨ao,λt=>t=yIq ⟨al,ai,ah⟩ ⟨bl,bi,bh⟩,Cv.cnd.mk (λe=>⟨ap,rfl,?_,k0q⟩) (λe=>⟨_,rfl,?_,k0q⟩),?_⟩
 ·have e:ai≠bi:=by simpa using e
  rw[yIq];simp[e]
 ·have e:ai=bi:=by simpa using e
  rw[yIq,e];cases ah<;>cases bh<;>simp
 rintro _ rfl;refine Cv.cnd.mk (λe=>⟨bi,rfl,rfl,rfl,λl=>l=yEb ⟨bl,bi,bh⟩,Cv.cnd.mk (λe2=>⟨lv0,rfl,rfl,rfl,?_,k0q⟩) (λe2=>⟨bi,rfl,rfl,rfl,?_,k0q⟩),?_⟩) (λe=> ?_)
 ·rw[yEb,y7z (by simpa using e2)]
 ·rw[yEb,y8c (by simpa using e2)]
 ·rintro _ rfl;have hsd:wE n s ⟨al,ai,ah⟩ ⟨bl,bi,bh⟩=M++[⟨n,s,yEb ⟨bl,bi,bh⟩,ap⟩]:=by rw[wE,y8c e,hM]
  rw[hsd];exact⟨⟨_,⟨n,s,yEb ⟨bl,bi,bh⟩,ap⟩⟩,rfl,rfl,rfl,rfl,rfl,rfl,rfl,rfl,ok1,λ_ _=>⟨(),tl1 _ _ _,tl2 _ _ _ _,trivial⟩⟩
 ·have hsd:wE n s ⟨al,ai,ah⟩ ⟨bl,bi,bh⟩=M:=by rw[wE,y7z (by simp[e]),hM,y8x]
  rw[hsd];exact⟨(),rfl,rfl,trivial⟩
def yGa:dsideC.ok Tryz.prog 142:=okw mixed (gokc yKa (gokc zSm gok0)) 0 (λ_=>yYf) (λi=>yVi i) [] Tryz.func142 yWk
def y3o (i:DvI) (h:diffC.cnd i):ySn i:=by
 obtain⟨hvw,⟨s1,s2⟩,l1,l2,hn⟩:i.v.length=i.w.length/\(-4000000000000000000<=i.seq/\i.seq<=4000000000000000000)/\Vw.levs i.v<=100000000/\Vw.levs i.w<=100000000/\i.v.length<=1000000:=h;have hmx:(i.v.map zP).length=i.v.length:=y8b _;have hmy:(i.w.map zP).length=i.w.length:=y8b _;unfold ySn uZ dS dY nQ zBa pT zHy dI;rw[hmx,hmy];refine Cv.cnd.mk (λc=> ?_) (λ_=> ?_)
 ·have c:(i.v.length:Int)≠i.w.length:=by simpa using c
  omega
 refine⟨0,rfl,by simp[j9],by simp[j9,wQ],λj=>j<=i.v.length,λj=>i.v.length-j,y9c _,λj hj=>zI (λe=> ?_) (λe=> ?_)⟩
 ·have hj:j<=i.v.length:=hj;obtain⟨a,ha⟩:=yC (l:=i.v) (i:=j) oM;obtain⟨b,hb⟩:=yC (l:=i.w) (i:=j) oM;have hd:=yEv i.v i.w j hj oM;have t1:=zAh ha;have t2:=zAh hb;have u1:=z8w i.v (j+1);have u2:=z8w i.w (j+1);have q1:=z4t j 1 a.1 b.1;have hvt:=zVi 0 j ha hb;rw[y8z]at hvt;have bdv:(0:Int)<=j/\(j:Int)<(i.v.length:Nat):=⟨oM,e⟩
  have bdw:(0:Int)<=j/\(j:Int)<(i.w.length:Nat):=⟨oM,oM⟩
  obtain⟨D,hD⟩:∃D:Dfr,D=Dfr.add ⟨i.seq,[]⟩ (j9 0 (i.v.take j) (i.w.take j)):=⟨_,rfl⟩
  have hDs:D.seq=i.seq+((j9 0 (i.v.take j) (i.w.take j)).length:Nat):=by rw[hD];rfl
  have hDo:D.out=[]++wQ i.seq (j9 0 (i.v.take j) (i.w.take j)):=by rw[hD];rfl
  have hDl:D.out.length=(j9 0 (i.v.take j) (i.w.take j)).length:=by rw[hDo,xAu,rB]
  refine⟨⟨Z8,Z8⟩,1,rfl,bdv,_,_,_,_,_,(yEp ha).2.1,bdw,_,_,_,_,_,(yEp hb).2.1,⟨D,j,1,a.1,b.1⟩,rfl,rfl,rfl,rfl,rfl,rfl,rfl,rfl,rfl,rfl,rfl,rfl,hDs,by rw[hDo],⟨Z9,Z9,Z9⟩,λ_ _=>⟨⟨Z8,Z8⟩,2,rfl,bdv,_,_,_,_,_,(yEp ha).2.2,bdw,_,_,_,_,_,(yEp hb).2.2,⟨D.add (wE j 1 a.1 b.1),j,2,a.2,b.2⟩,rfl,rfl,rfl,rfl,rfl,rfl,rfl,rfl,rfl,rfl,rfl,rfl,rfl,rfl,⟨by simp only[Dfr.add];omega,by simp only[Dfr.add];omega,by simp only[Dfr.add];rw[y8a,rB];omega⟩,λ_ _=>⟨j+1,wjn oM,?_,?_,Z9,Z9,k0q⟩⟩⟩
  ·show(Dfr.add ⟨i.seq,[]⟩ (j9 0 (i.v.take (j+1)) (i.w.take (j+1)))).seq=((D.add (wE j 1 a.1 b.1)).add (wE j 2 a.2 b.2)).seq;rw[hvt,hD,zMn,zMn]
  ·show(Dfr.add ⟨i.seq,[]⟩ (j9 0 (i.v.take (j+1)) (i.w.take (j+1)))).out.map xP=((D.add (wE j 1 a.1 b.1)).add (wE j 2 a.2 b.2)).out.map xP;rw[hvt,hD,zMn,zMn]
 ·have hj:j<=i.v.length:=hj;rw[y8l (by omega),y8l (by omega)];exact⟨(),rfl,trivial⟩
def yHz:diffC.ok Tryz.prog 101:=okw mixed (gokc yGa gok0) 1 (λ_=>[]) (λi=>y1t i) [] Tryz.func101 y3o
def ySa:∀{l:List zH} {v:Lv},v∈grp l->(1<=v.count/\v.count<=l.length)/\∃o∈l,o.price=v.price
 |[],v,h=>by cases h
 |o::l,v,h=>by
  have ih:∀v∈grp l,(1<=v.count/\v.count<=l.length)/\∃o∈l,o.price=v.price:=λv hv=>ySa hv
  rw[grp]at h;rw[y8f];split at h
  ·rw[y9u]at h;subst h;exact⟨Z9,o,y8h,rfl⟩
  ·rename_i w ws e;rw[e]at ih;have hw:=ih w y8h;split at h
   ·rename_i ep;rcases y8v.1 h with rfl|h
    ·exact⟨Z9,o,y8h,ep.symm⟩
    ·obtain⟨a,x,hx,hp⟩:=ih v (y8i _ h);exact⟨oM,x,y8i _ hx,hp⟩
   ·rcases y8v.1 h with rfl|h
    ·exact⟨Z9,o,y8h,rfl⟩
    ·obtain⟨a,x,hx,hp⟩:=ih v h;exact⟨oM,x,y8i _ hx,hp⟩
def z6z:∀l:List zH,(grp l).length<=l.length
 |[]=>y8w 0
 |o::l=>by
  have ih:=z6z l;rw[grp,y8f];cases e:grp l with
  |nil=>simp
  |cons w ws=>
   rw[e,y8f]at ih;dsimp only;split
   ·rw[y8f];omega
   ·rw[y8f,y8f];omega
def yVb {s:Int} {L:List Lv} (h:yNk s L) (hp:∀l∈L,1<=l.qty/\1<=l.count) (i:Nat):LvAt s L i:=by
 intro a ha;have hm:=hp a (y8m ha);refine⟨hm.1,hm.2,?_⟩;rintro j b rfl hb;obtain⟨h1,e1⟩:=y8e.1 ha;obtain⟨h2,e2⟩:=y8e.1 hb;have:=(List.pairwise_iff_getElem.1 h) j (j+1) h2 h1 (xDh j);rw[e1,e2]at this;exact this
def yBa {p:Prd} {B:List (List zH)} (h:BWf p B) {k:Nat} {L:List zH} (hL:B[k]? =av L) {s:Int} (hs:s=1\/s=2):
 (∀i,LvAt s (gK L s) i)/\(gK L s).length<=255/\∀l∈gK L s,(1<=l.qty/\l.qty<=250000000)/\l.fit:=by
 obtain⟨h1,h2,h3⟩:=h.od k L hL;have hf:(L.filter λo=>decide (o.side=s)).length<=L.length:=xBn _ _;have hl:=z6z (L.filter λo=>decide (o.side=s));have hall:∀l∈gK L s,(1<=l.qty/\l.qty<=250000000)/\(1<=l.count/\l.count<=250)/\(-2000000<=l.price/\l.price<=2000000):=λl hm=>by
  have q:=yBj (λo ho=>h1 o (xAa.1 ho).1) hm;obtain⟨c,o,ho,e⟩:=ySa hm;have hp:=h.ok.prices hL o (xAa.1 ho).1;rw[e]at hp;exact⟨oM,oM,hp⟩
 refine⟨yVb (yRk h hL hs).1 λl hm=>⟨(hall l hm).1.1,(hall l hm).2.1.1⟩,by rw[gK];omega,λl hm=> ?_⟩;obtain⟨a,b,c⟩:=hall l hm;exact⟨a,⟨oM,oM⟩,⟨oM,oM⟩,⟨oM,oM⟩⟩
def z1u {p:Prd} {B:List (List zH)} (h:BWf p B) {k:Nat} {L:List zH} (hL:B[k]? =av L) {s:Int} (hs:s=1\/s=2) (hb:(bestL L s).2=ap):1<=(bestL L s).1.qty/\(bestL L s).1.qty<=250000000:=by
 have hm:(bestL L s).1∈gK L s:=by
  rw[bestL]at hb ⊢;split at hb
  ·cases hb
  ·rename_i v vs e;rw[e];exact y8h
 exact((yBa h hL hs).2.2 _ hm).1
def yTz {p:Prd} {B:List (List zH)} (h:BWf p B) {i s:Int} (hi:0<=i/\i<(B.map qH).length) (hs:s=1\/s=2) (hh:((B.map qH).getD i.toNat top0).has s=ap):1<=((B.map qH).getD i.toNat top0).qty s/\((B.map qH).getD i.toNat top0).qty s<=250000000:=by
 rw[y8b]at hi;obtain⟨L,hL⟩:=yC (l:=B) (i:=i.toNat) oM;have e:(B.map qH).getD i.toNat top0=qH L:=by rw[y8j,y9r,hL];rfl
 rw[e]at hh ⊢;obtain⟨t1,t2,t3,t4,t5,t6⟩:=zLw L;rcases hs with rfl|rfl
 ·rw[Top.has,y8c rfl,t3]at hh;rw[Top.qty,y8c rfl,t2];exact z1u h hL (.inl rfl) hh
 ·rw[Top.has,y7z (by decide),t6]at hh;rw[Top.qty,y7z (by decide),t5];exact z1u h hL (.inr rfl) hh
def yPy {p:Prd} {B:List (List zH)} (h:BWf p B) {n s:Int} (hs:s=1\/s=2) {q:Quote} (hq:q∈xL ⟨p,B.map qH,n⟩ s):(1<=q.qty/\q.qty<=250000000)/\(-2000000<=q.price/\q.price<=2000000):=by
 rw[xL,xAa]at hq;obtain⟨ok,-⟩:=yAr h.ok.pc (by rw[y8b,h.ok.bl]) hs hq.1;have qa:=yTz h ok.a ok.sa ok.ha;have qb:=yTz h ok.b ok.sb ok.hb;have hp:p.price n q.price=0:=by simpa using hq.2
 exact⟨by rw[ok.qty];omega,lY h.ok.pc hp⟩
def zIg (b:Quote) {M:Int}:∀(l:List Quote) (a:Int×Int),(∀q∈l,1<=q.qty/\q.qty<=M)->1<=a.1->a.1<=M->
 (1<=(l.foldl (λa q=>if q.price=b.price then(if q.qty>a.1 then q.qty else a.1,a.2+1)else a) a).1/\(l.foldl (λa q=>if q.price=b.price then(if q.qty>a.1 then q.qty else a.1,a.2+1)else a) a).1<=M)/\
 a.2<=(l.foldl (λa q=>if q.price=b.price then(if q.qty>a.1 then q.qty else a.1,a.2+1)else a) a).2/\(l.foldl (λa q=>if q.price=b.price then(if q.qty>a.1 then q.qty else a.1,a.2+1)else a) a).2<=a.2+l.length/\
 (b∈l->a.2+1<=(l.foldl (λa q=>if q.price=b.price then(if q.qty>a.1 then q.qty else a.1,a.2+1)else a) a).2)
 |[],a,_,h1,h2=>⟨⟨h1,h2⟩,xBo _,by simp,λh=>by cases h⟩
 |q::l,a,hq,h1,h2=>by
  have q0:=hq q y8h;rw[xBt,y8f];by_cases e:q.price=b.price
  ·rw[y8c e];obtain⟨r1,r2,r3,r4⟩:=zIg b (M:=M) l (if q.qty>a.1 then q.qty else a.1,a.2+1) (λx hx=>hq x (y8i _ hx)) (by dsimp only;split<;>omega) (by dsimp only;split<;>omega);dsimp only at r2 r3;exact⟨r1,oM,oM,λ_=>r2⟩
  ·rw[y7z e];obtain⟨r1,r2,r3,r4⟩:=zIg b (M:=M) l a (λx hx=>hq x (y8i _ hx)) h1 h2;refine⟨r1,r2,oM,λhb=> ?_⟩;rcases y8v.1 hb with rfl|hb
   ·exact absurd rfl e
   ·exact r4 hb
def yLz {l:List Quote} {s:Int} (hl:l.length<=100) (h:∀q∈l,(1<=q.qty/\q.qty<=250000000)/\(-2000000<=q.price/\q.price<=2000000)):
 ((qM l s).2=ap->1<=(qM l s).1.qty/\1<=(qM l s).1.count)/\((qM l s).2=ao->(qM l s).1=⟨0,0,0⟩)/\(qM l s).1.fit:=by
 by_cases e:(zY l s).2=ap
 ·have hm:=zHw e;have hb:=h _ hm;have:=zIg (zY l s).1 (M:=250000000) l ((zY l s).1.qty,0) (λq hq=>(h q hq).1) hb.1.1 hb.1.2;have e2:qM l s=(⟨(zY l s).1.price,(dN l (zY l s).1).1,(dN l (zY l s).1).2⟩,ap):=by rw[qM,y8c e]
  rw[e2];rw[<- dN]at this;obtain⟨r1,r2,r3,r4⟩:=this;have r4:=r4 hm;dsimp only at r2 r3 r4 ⊢;exact⟨λ_=>⟨r1.1,oM⟩,λx=>(by cases x),⟨Z9,Z9⟩,⟨Z9,Z9⟩,⟨Z9,Z9⟩⟩
 ·have e2:qM l s=(⟨0,0,0⟩,ao):=by rw[qM,y7z e]
  rw[e2];exact⟨λx=>(by cases x),λ_=>rfl,⟨Z8,Z8⟩,⟨Z8,Z8⟩,⟨Z8,Z8⟩⟩
def rY {p:Prd} {B:List (List zH)} (h:BWf p B):wC (yY p B)/\yGz (yY p B)/\gR (yY p B):=by
 have hc:=xJ p;have hlen:=zAr p B;have hside:∀k,k<p.count->∀s,s=1\/s=2->SdRight s (zHc p B k s)/\(zHc p B k s).fit:=λk hk s hs=>by
  obtain⟨L,hL⟩:=yC (l:=B) (i:=k) (by rw[h.ok.bl];exact hk);have e:B.getD k []=L:=zW hL;obtain⟨a1,a2,a3⟩:=yBa h hL hs;obtain⟨b1,b2,b3⟩:=yLz (s:=s) (lB ⟨p,B.map qH,k⟩ s) (λq hq=>yPy h hs hq);rw[zHc,e];exact⟨⟨a1,a2,b1,b2⟩,λx hx=>(a3 x hx).2,b3⟩
 have hmem:∀b∈yY p B,∃k,k<p.count/\b=(zHc p B k 1,zHc p B k 2):=λb hb=>by
  rw[yY]at hb;obtain⟨k,hk,rfl⟩:=y9m.1 hb;exact⟨k,xBf.1 hk,rfl⟩
 refine⟨⟨λb hb=> ?_,oM⟩,λb hb=> ?_,⟨oM,λb hb=> ?_⟩⟩
 ·obtain⟨k,hk,rfl⟩:=hmem b hb;exact⟨(hside k hk 1 (.inl rfl)).1,(hside k hk 2 (.inr rfl)).1⟩
 ·obtain⟨k,hk,rfl⟩:=hmem b hb;exact⟨(hside k hk 1 (.inl rfl)).2,(hside k hk 2 (.inr rfl)).2⟩
 ·obtain⟨k,hk,rfl⟩:=hmem b hb;have a:=(hside k hk 1 (.inl rfl)).1.2.1;have c:=(hside k hk 2 (.inr rfl)).1.2.1;dsimp only;omega
structure VwG (p:Prd) (v:Vw):Prop where
 r:wC v
 f:yGz v
 s:gR v
 len:v.length=p.count
def zXo {p:Prd} {B:List (List zH)} (h:BWf p B):VwG p (yY p B):=⟨(rY h).1,(rY h).2.1,(rY h).2.2,zAr p B⟩
def yHp {p:Prd} {v:Vw} (h:VwG p v):Vw.levs v<=510*v.length:=by
 have:∀{v:Vw},(∀b∈v,SdRight 1 b.1/\SdRight 2 b.2)->Vw.levs v<=510*v.length:=by
  intro v
  induction v with
  |nil=>intro _;exact y8w _
  |cons a v ih=>
   intro h;have ha:=h a y8h;have:=ih λb hb=>h b (y8i _ hb)
   have h1:=ha.1.2.1;have h2:=ha.2.2.1;rw[Vw.levs]at this ⊢;rw[y8p,y9p,y8f];omega
 exact this h.r.1
@[reducible] def y5q (v:Vw):AObj:= .own 130 10 (v.map zP)
@[reducible] def zLi (v:Vw):AObj:= .fro 10 (v.map zP)
def lookOC:Con:=con1 LkI (λi=>[prdV i.p,.nm 0 0]) (λi=>[zC i.s]) (λi=>i.s.Rep i.p i.B/\BOk i.p i.B) (λ_=> .agg [.own 1]) (λi=>[zC i.s,y5q (yY i.p i.B)])
def gchkC:Con:=con1 SbI (λi=>[.nm 0 0,zA i.s,roV 1 (bE i.b)]) (λ_=>[.gone]) (λi=>i.b.length<=1099511627776) (λi=>zA (zT i.s i.b).2) (λ_=>[.gone])
def glookC:Con:=con1 Gt (λ_=>[.nm 0 0]) (λg=>GtO g) (λ_=>True) (λ_=> .nm 1 0) (λg=>GtO g)
def mlookC:Con:=con1 Mkt (λ_=>[.nm 0 0]) (λm=>zBv m) (λ_=>True) (λ_=> .nm 1 0) (λm=>zBv m)
structure En where
 p:Prd
 v:Vw
 q:Int
 R:List (List UInt8)
@[reducible] def zYq:Nat:=95
def enC (e:En) (r l:Nat):AObj:= .cells [sV e.p.code,.own 5,zA e.p.tick,zA e.p.low,zA e.p.high,zA e.p.wide,zA e.p.rule,zA e.p.top,zA e.p.least,zA e.p.part,.own 6,.nm 1 0,.nm 2 0,.own l,zA e.q,.own r] zYq
structure Es where
 B:List (List zH)
 U:List Int
 W:List (Int×Int)
 q:Int
 R:List (List UInt8)
def Es.en (x:Es) (p:Prd):En:=⟨p,yY p x.B,x.q,x.R⟩
def eA (s:Int) (b:List UInt8):List UInt8:=lob s::b
def Es.X (x:Es) (p:Prd) (s:Int) (b:List UInt8):GtX:=lO p x.B x.U x.W s b
def Es.M (x:Es) (p:Prd) (s:Int) (b:List UInt8):List VM:=j9 0 (yY p x.B) (yY p (x.X p s b).B)
def Es.ed (x:Es) (p:Prd) (s:Int) (b:List UInt8):Es:=⟨(x.X p s b).B,(x.X p s b).U,(x.X p s b).W,x.q+(x.M p s b).length,x.R++[eA s b]⟩
structure EdI where
 o:Mkt
 x:Es
 p:Prd
 s:Int
 b:List UInt8
def EdI.g (i:EdI):Gt:=⟨i.o,i.x.W⟩
@[reducible] def EdI.ok (i:EdI):Prop:=(i.o.Rep i.p i.x.B i.x.U/\BOk i.p i.x.B)/\i.b.length<=1048576/\(0<=i.s/\i.s<8)/\(0<=i.x.q/\i.x.q<=1000000000000000000)/\i.x.R.length<=1000000
def EdI.Y (i:EdI):Es:=i.x.ed i.p i.s i.b
def EdI.N (i:EdI):List z1s:=wQ i.x.q (i.x.M i.p i.s i.b)
def EdI.O (i:EdI):List (Int×Rep):=(i.x.X i.p i.s i.b).O
def EdI.rows (i:EdI):List AObj:=[enC (i.x.en i.p) 4 7,.gone,GtR i.g,.gone,rcR i.x.R,.fro 1 (iE i.p.months),.fro 1 (iE i.p.settle),zLi (yY i.p i.x.B)]
def edC:Con where
 ι:=EdI
 pat:=λi=>[.nm 0 0,zA i.s,roV 1 (bE i.b)]
 pre:=λi=>i.rows
 cnd:=λi=>i.ok
 alts:=λi=>[{o:=Mkt,res:=λ_=> .agg [.own 10,.own 11],post:=λo=>[enC (i.Y.en i.p) 8 9,.gone,GtR ⟨o,i.Y.W⟩,.gone,.gone,.fro 1 (iE i.p.months),.fro 1 (iE i.p.settle),.gone,rcR i.Y.R,zLi (yY i.p i.Y.B),z4i i.O,yCg i.N],rel:=λo=>o.Rep i.p i.Y.B i.Y.U}]
def yGc (i:LkI):Prop:=
 ∃(a:Prd),sb a.code=sb i.p.code/\iE a.months=iE i.p.months/\a.tick=i.p.tick/\a.low=i.p.low/\a.high=i.p.high/\a.wide=i.p.wide/\a.rule=i.p.rule/\a.top=i.p.top/\a.least=i.p.least/\a.part=i.p.part/\iE a.settle=iE i.p.settle/\(zX a)/\∀(b:Unit),True->cnd (a.check !=0) (∃(c:Unit),dh (zC i.s)/\aa zP (yY i.p i.B)=[]/\True) (∃(c:MSt),zC c=zC i.s/\(u7 c)/\∀(d:Unit),True->∃(e:Prd),sb e.code=sb i.p.code/\iE e.months=iE i.p.months/\e.tick=i.p.tick/\e.low=i.p.low/\e.high=i.p.high/\e.wide=i.p.wide/\e.rule=i.p.rule/\e.top=i.p.top/\e.least=i.p.least/\e.part=i.p.part/\iE e.settle=iE i.p.settle/\(zX e)/\∀(f:Unit),True->∃(g:Nat),(↑g:Int)=0/\aa zP (uL g i)=[]/\aa z7 (aa qH i.B)=aa z7 c.tops/\∃(h:Nat->Prop),∃(j:Nat->Nat),h g/\∀(k:Nat),h k->cnd (decide ((↑k:Int)<(↑e.count:Int))) (zMk k c i h j) (∃(l:Unit),zC i.s=zC c/\aa zP (yY i.p i.B)=aa zP (uL k i)/\True))
def y4q (i:SbI):Prop:=
 ∃(i_1:SbI),i_1.s=i.s/\bE i_1.b=bE i.b/\i_1.b.length<=1099511627776/\∀(o:Unit),True->∃(o:Unit),(zT i.s i.b).snd=(zT i_1.s i_1.b).snd/\True
def yXt (g:Gt):Prop:=
 ∃(o:Unit),ak Mkt 5 yL g.m=qT g.m/\dh (xH g.W)/\True
def yZh (m:Mkt):Prop:=
 ∃(o:Unit),dh (sb m.p.code)/\dh m.p.tick/\dh m.p.low/\dh m.p.high/\dh m.p.wide/\dh m.p.rule/\dh m.p.top/\dh m.p.least/\dh m.p.part/\zC m.s=yL m 1/\dh (zU m.used)/\ag 1 (iE m.p.months)=yL m 3/\ag 1 (iE m.p.settle)=yL m 4/\True
def zAg (a:EdI):Prop:=sb a.p.code=sb a.p.code/\True/\dh a.p.tick/\dh a.p.low/\dh a.p.high/\dh a.p.wide/\dh a.p.rule/\dh a.p.top/\dh a.p.least/\dh a.p.part/\True/\True
def zAw (a:EdI):=(aa zP (yY a.p (a.x.X a.p a.s a.b).B))
def z3h (a:EdI) (b:Mkt) (c:Gt) (d:List (List UInt8)) (e:GdI):Prop:=∃(f:LkI),sb f.p.code=sb a.p.code/\iE f.p.months=iE a.p.months/\f.p.tick=a.p.tick/\f.p.low=a.p.low/\f.p.high=a.p.high/\f.p.wide=a.p.wide/\f.p.rule=a.p.rule/\f.p.top=a.p.top/\f.p.least=a.p.least/\f.p.part=a.p.part/\iE f.p.settle=iE a.p.settle/\zC f.s=zC b.s/\(f.s.Rep f.p f.B/\BOk f.p f.B)/\∀(g:Unit),True->∃(h:DvI),aa zP h.v=aa zP (yY a.p a.x.B)/\aa zP h.w=aa zP (yY f.p f.B)/\h.seq=a.x.q/\(ab h.v=ab h.w/\((-4000000000000000000)<=h.seq/\h.seq<=4000000000000000000)/\h.v.levs<=100000000/\h.w.levs<=100000000/\ab h.v<=1000000)/\∀(j:Unit),True->∃(k:Mkt),dh (sb a.p.code)/\dh a.p.tick/\dh a.p.low/\dh a.p.high/\dh a.p.wide/\dh a.p.rule/\dh a.p.top/\dh a.p.least/\dh a.p.part/\a.x.q+(↑(a.x.M a.p a.s a.b).length:Int)=aq.wrap (a.x.q+(↑(aa xP (wQ h.seq (j9 0 h.v h.w))).length:Int))/\sb k.p.code=sb b.p.code/\k.p.tick=b.p.tick/\k.p.low=b.p.low/\k.p.high=b.p.high/\k.p.wide=b.p.wide/\k.p.rule=b.p.rule/\k.p.top=b.p.top/\k.p.least=b.p.least/\k.p.part=b.p.part/\zC k.s=zC f.s/\zU k.used=zU b.used/\ag 1 (iE k.p.months)=ag 1 (iE b.p.months)/\ag 1 (iE k.p.settle)=ag 1 (iE b.p.settle)/\xH (a.x.X a.p a.s a.b).W=xH c.W/\dh (ag 1 (iE a.p.months))/\dh (ag 1 (iE a.p.settle))/\aa rcE (a.x.R++[eA a.s a.b])=aa rcE a.x.R++[[D.ro 1 (bE d.flatten)]]/\ag 10 (zAw a)=ag 10 (aa zP (yY f.p f.B))/\aa jH a.O=aa jH e.X.O/\aa xP a.N=aa xP (wQ h.seq (j9 0 h.v h.w))/\k.Rep a.p (a.x.X a.p a.s a.b).B (a.x.X a.p a.s a.b).U
def z4h (a:EdI) (b:Mkt) (c:Gt) (d:List (List UInt8)) (e:GdI):Prop:=(zAg a)/\z3h a b c d e
def z2x (a:EdI) (b:Gt) (c:List (List UInt8)) (d:GdI):Prop:=(zAg a)/\∃(e:Mkt),sb e.p.code=sb b.m.p.code/\e.p.tick=b.m.p.tick/\e.p.low=b.m.p.low/\e.p.high=b.m.p.high/\e.p.wide=b.m.p.wide/\e.p.rule=b.m.p.rule/\e.p.top=b.m.p.top/\e.p.least=b.m.p.least/\e.p.part=b.m.p.part/\zC e.s=zC b.m.s/\zU e.used=zU b.m.used/\ag 1 (iE e.p.months)=ag 1 (iE b.m.p.months)/\ag 1 (iE e.p.settle)=ag 1 (iE b.m.p.settle)/\True/\∀(f:Unit),True->z4h a e b c d
def zMh (a:GdI):Prop:=(a.g.m.Rep a.p a.B a.U/\BOk a.p a.B)/\a.b.length<=1099511627776/\a.X=lO a.p a.B a.U a.g.W a.s a.b
def Ved (i:EdI):Prop:=
 True/\True/\∃(a:List (List UInt8)),aa rcE a=[[D.ro 1 [[D.v (.int .u8 (ar.wrap i.s))]]],[D.ro 1 (bE i.b)]]/\(1<=a.flatten.length/\a.flatten.length<=1099511627776/\a.length<=1000)/\∀(b:Unit),True->True/\True/\((aa rcE i.x.R).length+1)*(24:Nat)<=(140737488355328:Nat)/\∃(c:GdI),c.s=i.s/\bE c.b=bE i.b/\GtR c.g=GtR i.g/\(zMh c)/\∀(d:Mkt),d.Rep c.p c.X.B c.X.U->(∃(e:Gt),qT e.m=qT d/\xH e.W=xH c.X.W/\True/\∀(f:Unit),True->(zAg i)/\(∃(g:Mkt),sb g.p.code=sb e.m.p.code/\g.p.tick=e.m.p.tick/\g.p.low=e.m.p.low/\g.p.high=e.m.p.high/\g.p.wide=e.m.p.wide/\g.p.rule=e.m.p.rule/\g.p.top=e.m.p.top/\g.p.least=e.m.p.least/\g.p.part=e.m.p.part/\zC g.s=zC e.m.s/\zU g.used=zU e.m.used/\ag 1 (iE g.p.months)=ag 1 (iE e.m.p.months)/\ag 1 (iE g.p.settle)=ag 1 (iE e.m.p.settle)/\True/\∀(h:Unit),True->(zAg i)/\(z3h i g e a c)/\z4h i g e a c)/\z2x i e a c)/\True/\(zAg i)/\∃(e:Gt),qT e.m=qT d/\xH e.W=xH c.X.W/\True/\∀(f:Unit),True->z2x i e a c
def yOt {n lo hi:Int} (h:lo<=hi):lo<=zG n lo hi/\zG n lo hi<=hi:=by
 have h1:=xEc n (show hi-lo+1≠0 by omega);have h2:=xEd n (show 0<hi-lo+1 by omega);rw[zG];constructor<;>omega
open Classical in
def yDq (v:Vw):zRq v v=ap:=by
 unfold zRq;exact y8r rfl
open Classical in
def y1k {p:Prd} {v w:Vw} (hv:VwG p v) (hw:VwG p w):v.length=w.length/\Vw.levs v<=100000000/\Vw.levs w<=100000000/\v.length<=1000000:=by
 have h1:=yHp hv;have h2:=yHp hw;have h3:=hv.r.2;have h4:=hw.r.2;exact⟨by rw[hv.len,hw.len],oM,oM,oM⟩
def yWn (i:LkI) (h:lookOC.cnd i):yGc i:=by
 obtain⟨hR,hB⟩:i.s.Rep i.p i.B/\BOk i.p i.B:=h;have hcl:=xJ i.p;have hbl:=hB.bl;have hcnt:i.s.cntOk:=hR.cnt oM;have hto:vG (i.B.map qH):=hB.tops;have hll:=zAr i.p i.B;unfold yGc u7 zMk uZ cC qV u6 fD Vdect316 kF uL zX dI;refine⟨i.p,rF7 (rF3 ⟨rfl,hB.ps,λ_ _=>Cv.cnd.mk (λc=>absurd hB.pc (by simpa using c)) (λ_=>⟨i.s,rfl,hcnt,λ_ _=>⟨i.p,rF7 (rF3 ⟨rfl,hB.ps,λ_ _=>⟨0,rfl,rfl,by rw[hR.tops],λj=>j<=i.p.count,λj=>i.p.count-j,y9c _,λj hj=>zI (λhlt=> ?_) (λhlt=> ?_)⟩⟩)⟩⟩)⟩)⟩
 ·have hlt:j<i.p.count:=by omega
  have hat:atB i.B (j:Int)=i.B.getD j []:=by rw[atB,y7z (by omega),y8s]
  have hq:∀s,(xL ⟨i.p,i.B.map qH,j⟩ s).length<=1000000:=λs=>xAw (lB _ _) Z8
  refine⟨⟨Z8,Z8⟩,1,rfl,⟨i.s,i.p,i.B,j,ao⟩,rfl,rfl,rfl,⟨hR,Z9⟩,λ_ _=>⟨⟨⟨i.p,i.B.map qH,j⟩,ao⟩,rF8 (rF5 ⟨rfl,⟨hB.ps,hto⟩,λ_ _=>⟨⟨xL ⟨i.p,i.B.map qH,j⟩ 1,1⟩,rfl,rfl,⟨.inl rfl,hq 1⟩,λ_ _=>⟨⟨Z8,Z8⟩,2,rfl,⟨i.s,i.p,i.B,j,ap⟩,rfl,rfl,rfl,⟨hR,Z9⟩,λ_ _=>⟨⟨⟨i.p,i.B.map qH,j⟩,ap⟩,rF8 (rF5 ⟨rfl,⟨hB.ps,hto⟩,λ_ _=>⟨⟨xL ⟨i.p,i.B.map qH,j⟩ 2,2⟩,rfl,rfl,⟨.inr rfl,hq 2⟩,λ_ _=>⟨?_,j+1,wjn oM,?_,rfl,Z9,Z9,rfl,k0q⟩⟩⟩)⟩⟩⟩⟩)⟩⟩
  ·rw[y8b,y8t];omega
  ·rw[y9g,zUk i.p i.B hlt,xBb,y8k,y8p,xBq];dsimp only;rw[hat];rfl
 ·have hj:j<=i.p.count:=hj;rw[y8l (by omega)];exact⟨(),k0q⟩
def z1p:lookOC.ok Tryz.prog 29:=okw mixed (gokc pN (gokc z7o (gokc cJ (gokc z8y (gokc zHh (gokc z7k gok0)))))) 1 (λ_=>[]) (λi=>yRv i) [] Tryz.func29 yWn
def z7y:gchkC.ok Tryz.prog 40:=okw (V:=y4q) mixed (gokc z2k gok0) 0 (λ_=>[]) (λ_=>[]) [] Tryz.func40 λ(i:SbI) h=>⟨i,rfl,rfl,h,λ_ _=>⟨(),rfl,trivial⟩⟩
def zTy:glookC.ok Tryz.prog 51:=okw (V:=yXt) mixed gok0 0 (λ_=>[]) (λ_=>[]) [] Tryz.func51 λ(g:Gt) _=>⟨(),rfl,rfl,trivial⟩
def z0i:mlookC.ok Tryz.prog 52:=okw (V:=yZh) mixed gok0 0 (λ_=>[]) (λ_=>[]) [] Tryz.func52 λ(m:Mkt) _=>⟨(),k0q⟩
def z1a {p:Prd} {B:List (List zH)} (h:BWf p B) (U:List Int) (W:List (Int×Int)) (s:Int) (b:List UInt8):BOk p (lO p B U W s b).B:=by
 rw[lO];split
 ·exact h.ok
 split
 ·exact h.ok
 rw[z0d];split
 ·exact h.ok
 split
 ·exact h.ok
 ·exact yYw h U _
def y2k {p:Prd} {v w:Vw} (hv:VwG p v) (hw:VwG p w):(j9 0 v w).length<=202000000:=by
 obtain⟨h1,h2,h3,h4⟩:=y1k hv hw;have:=yEv v w v.length (y8w _) oM;rw[y8l (y8w _),y8l (by omega)]at this;omega
def ved (i:EdI) (h:edC.cnd i):Ved i:=by
 obtain⟨o0,x,p,s,b⟩:=i;obtain⟨⟨hM,hB⟩,hb,⟨hs1,hs2⟩,⟨hq1,hq2⟩,hR⟩:(o0.Rep p x.B x.U/\BOk p x.B)/\b.length<=1048576/\(0<=s/\s<8)/\(0<=x.q/\x.q<=1000000000000000000)/\x.R.length<=1000000:=h;have hwf:=hM.s.wf hB;have hB2:BOk p (x.X p s b).B:=z1a hwf _ _ _ _;have hls:((lob s).toNat:Int)=ar.wrap s:=(zLr s).symm;unfold Ved zMh z2x z4h z3h zAw zAg;dsimp only;refine⟨trivial,trivial,[[lob s],b],?_,⟨by simp,by simp;omega,by simp⟩,λ_ _=>⟨trivial,trivial,by rw[y8b];omega,⟨⟨o0,x.W⟩,p,x.B,x.U,s,b,x.X p s b⟩,rfl,rfl,rfl,⟨⟨hM,hB⟩,Z9,rfl⟩,λo ho=> ?_⟩⟩
 ·show[rcE [lob s],rcE b]=_;rw[rcE,rcE,<- hls];rfl
 have hv:=zXo hwf;have hw:=zXo (ho.s.wf hB2);obtain⟨g1,g2,g3,g4⟩:=y1k hv hw;have hl:=y2k hv hw;have er:aa rcE (x.R++[eA s b])=aa rcE x.R++[[D.ro 1 (bE [[lob s],b].flatten)]]:=by
  rw[y8k];simp[rcE,eA]
 have eq1:x.q+((x.M p s b).length:Int)=aq.wrap (x.q+(aa xP (wQ x.q (x.M p s b))).length):=by
  have:(x.M p s b).length<=202000000:=hl;rw[y8b,rB,w64 (by omega)]
 refine⟨⟨⟨o,(x.X p s b).W⟩,rfl,rfl,trivial,λ_ _=>⟨k0q,⟨o,rF8 (rF4 ⟨rfl,trivial,λ_ _=>⟨k0q,?_,k0q,?_⟩⟩)⟩,k0q,o,rfl,rfl,rfl,rfl,rfl,rfl,rfl,rfl,rfl,rfl,rfl,rfl,rfl,trivial,λ_ _=>⟨k0q,?_⟩⟩⟩,trivial,k0q,⟨o,(x.X p s b).W⟩,rfl,rfl,trivial,λ_ _=>⟨k0q,o,rF8 (rF4 ⟨rfl,trivial,λ_ _=>⟨k0q,?_⟩⟩)⟩⟩
 all_goals exact⟨⟨o.s,p,(x.X p s b).B⟩,rF8 (rF3 ⟨rfl,⟨ho.s,hB2⟩,λ_ _=>⟨⟨yY p x.B,yY p (x.X p s b).B,x.q⟩,rfl,rfl,rfl,⟨g1,⟨Z9,Z9⟩,g2,g3,g4⟩,λ_ _=>⟨o,rF8 ⟨rfl,eq1,rF8 (rF7 ⟨rfl,er,rF3 ho⟩)⟩⟩⟩⟩)⟩
def yTw:edC.ok Tryz.prog 44:=okw mixed (gokc z7v (gokc yHd (gokc zTy (gokc z0i (gokc z1p (gokc yHz gok0)))))) 0 (λ_=>[]) (λ_=>[]) [] Tryz.func44 ved
structure EoI where
 o:Mkt
 x:Es
 p:Prd
 d:Dk
 s:Int
 b:List UInt8
def zYd (p:Prd) (x:Es) (o:Mkt) (d:Dk):List AObj:=[enC (x.en p) 4 7,jnR 3 x.R.length,GtR ⟨o,x.W⟩,DkR d,rcR x.R,.fro 1 (iE p.months),.fro 1 (iE p.settle),zLi (yY p x.B)]
@[reducible] def EoI.ok (i:EoI):Prop:=(i.o.Rep i.p i.x.B i.x.U/\BOk i.p i.x.B)/\i.b.length<=254/\(-1<=i.s/\i.s<8)/\(0<=i.x.q/\i.x.q<=1000000000000000000)/\i.x.R.length<=1000000/\i.d.b.length+i.b.length+7<=1048576
def EoI.Y (i:EoI):Es:=i.x.ed i.p i.s i.b
def EoI.N (i:EoI):List z1s:=wQ i.x.q (i.x.M i.p i.s i.b)
def EoI.O (i:EoI):List (Int×Rep):=(i.x.X i.p i.s i.b).O
def EoI.D (i:EoI):Dk:=⟨i.d.b++kM (eA i.s i.b),i.d.safe⟩
def edoC:Con where
 ι:=EoI
 pat:=λi=>[.nm 0 0,zA i.s,roV 1 (bE i.b)]
 pre:=λi=>zYd i.p i.x i.o i.d
 cnd:=λi=>i.ok
 alts:=λi=>[
  {o:=Mkt,res:=λ_=> .agg [.own 8,z6e],post:=λo=>zYd i.p i.x o i.d++[z4i [(i.s,⟨2,0,0,0,0,0,0,(zT i.s i.b).2⟩)]],rel:=λo=>(zT i.s i.b).2≠0/\o.Rep i.p i.x.B i.x.U},
  {o:=Mkt,res:=λ_=> .agg [.own 10,.own 11],post:=λo=>[enC (i.Y.en i.p) 8 9,jnR 3 i.Y.R.length,GtR ⟨o,i.Y.W⟩,DkR i.D,.gone,.fro 1 (iE i.p.months),.fro 1 (iE i.p.settle),.gone,rcR i.Y.R,zLi (yY i.p i.Y.B),z4i i.O,yCg i.N],rel:=λo=>(zT i.s i.b).2=0/\o.Rep i.p i.Y.B i.Y.U}]
def es0 (p:Prd):Es:=⟨af p.count [],[],[],0,[]⟩
def yRx (p:Prd) (x:Es) (r:List UInt8):Es:=x.ed p (r.headD 0).toNat r.tail
def wU (p:Prd) (L:List (List UInt8)):Es:=L.foldl (yRx p) (es0 p)
def yTq (r:List UInt8):Prop:=r≠[]/\(zT (r.headD 0).toNat r.tail).2=0
structure EpI where
 p:Prd
 s:Nat
 L:List (List UInt8)
 t:List UInt8
def EpI.j (i:EpI):JoI:=⟨i.s,i.L,i.t⟩
@[reducible] def EpI.ok (i:EpI):Prop:=(i.p.check=0/\i.p.small)/\((ScI.mk i.L i.t).ok/\i.j.d.ok)/\(∀r∈i.L,yTq r)/\i.L.length<=100000
def enK (e:En):AObj:= .cells [sV e.p.code,.own 5,zA e.p.tick,zA e.p.low,zA e.p.high,zA e.p.wide,zA e.p.rule,zA e.p.top,zA e.p.least,zA e.p.part,.own 6,.nm 2 0,.nm 3 0,.own 7,zA e.q,.own 4] zYq
def eopC:Con where
 ι:=EpI
 pat:=λi=>[prdV i.p,.nm 0 0]
 pre:=λi=>[DkR i.j.d]
 cnd:=λi=>i.ok
 alts:=λi=>[{o:=Mkt,res:=λ_=> .tup [.nm 1 0,zA 0],post:=λo=>[DkR i.j.d',enK ((wU i.p i.L).en i.p),jnR 0 i.L.length,GtR ⟨o,(wU i.p i.L).W⟩,rcR (wU i.p i.L).R,.fro 1 (iE i.p.months),.fro 1 (iE i.p.settle),zLi (yY i.p (wU i.p i.L).B)],rel:=λo=>o.Rep i.p (wU i.p i.L).B (wU i.p i.L).U}]
structure EpJ where
 o:Mkt
 x:Es
 k:Nat
def y6w (i:EpI):List SAnn:=[{ι:=EpJ,slots:=λj=>[(6,.nm 2 0),(10,.nm 0 0),(48,.own 8),(50,zA j.k)],rows:=λj=>[enC (j.x.en i.p) 4 7,jnR 3 i.L.length,GtR ⟨j.o,j.x.W⟩,DkR i.j.d',rcR j.x.R,.fro 1 (iE i.p.months),.fro 1 (iE i.p.settle),zLi (yY i.p j.x.B),rcR i.L]}]
noncomputable def esnC:Con:=con1 En (λ_=>[.nm 0 0]) (λe=>[enC e 4 7,.gone,.gone,.gone,.gone,.gone,.gone,zLi e.v]) (λe=>gR e.v) (λe=>roV 1 (bE (xQ e.v e.q))) (λe=>[enC e 4 7,.gone,.gone,.gone,.gone,.gone,.gone,zLi e.v])
def zHa (a:EdI):Prop:=(a.o.Rep a.p a.x.B a.x.U/\BOk a.p a.x.B)/\a.b.length<=1048576/\(0<=a.s/\a.s<8)/\(0<=a.x.q/\a.x.q<=1000000000000000000)/\a.x.R.length<=1000000
def dC (a:EoI):=(aa zP (yY a.p (a.x.X a.p a.s a.b).B))
def gF (a:EoI):=(a.x.R++[eA a.s a.b])
def dF (a:EoI):=(↑(gF a).length:Int)
def fV (a:EoI):=(↑(a.x.M a.p a.s a.b).length:Int)
def vI (a:EoI):=(aa zP (yY a.p a.x.B))
def y3v (i:EoI):Prop:=
 ∃(a:SbI),a.s=i.s/\bE a.b=bE i.b/\a.b.length<=1099511627776/\∀(b:Unit),True->cnd ((zT a.s a.b).snd !=0) (∃(c:GdI),c.s=i.s/\bE c.b=bE i.b/\GtR c.g=GtR (Gt.mk i.o i.x.W)/\(zMh c)/\∀(d:Mkt),d.Rep c.p c.X.B c.X.U->(∃(e:Mkt),True/\dh (sb i.p.code)/\dh i.p.tick/\dh i.p.low/\dh i.p.high/\dh i.p.wide/\dh i.p.rule/\dh i.p.top/\dh i.p.least/\dh i.p.part/\dh i.x.q/\dh ((↑i.x.R.length:Int))/\GtR (Gt.mk e i.x.W)=GtR (Gt.mk d c.X.W)/\dh (DkR i.d)/\dh (aa rcE i.x.R)/\dh (ag 1 (iE i.p.months))/\dh (ag 1 (iE i.p.settle))/\ag 10 (vI i)=zLi (yY i.p i.x.B)/\[jH (i.s,Rep.mk 2 0 0 0 0 0 0 (zT i.s i.b).snd)]=aa jH c.X.O/\(zT i.s i.b).snd≠0/\e.Rep i.p i.x.B i.x.U)\/∃(o_1:Mkt),dh (sb i.p.code)/\dh i.p.tick/\dh i.p.low/\dh i.p.high/\dh i.p.wide/\dh i.p.rule/\dh i.p.top/\dh i.p.least/\dh i.p.part/\i.x.q+(fV i)=i.x.q/\(dF i)=(↑i.x.R.length:Int)/\GtR (Gt.mk o_1 (i.x.X i.p i.s i.b).W)=GtR (Gt.mk d c.X.W)/\DkR i.D=DkR i.d/\dh (ag 1 (iE i.p.months))/\dh (ag 1 (iE i.p.settle))/\aa rcE (gF i)=aa rcE i.x.R/\ag 10 (dC i)=zLi (yY i.p i.x.B)/\aa jH i.O=aa jH c.X.O/\aa xP i.N=[]/\(zT i.s i.b).snd=0/\o_1.Rep i.p (i.x.X i.p i.s i.b).B (i.x.X i.p i.s i.b).U) (True/\True/\∃(c:List (List UInt8)),aa rcE c=[[D.ro 1 [[D.v (.int .u8 (ar.wrap i.s))]]],[D.ro 1 (bE i.b)]]/\(1<=c.flatten.length/\c.flatten.length<=1099511627776/\c.length<=1000)/\∀(d:Unit),True->True/\∃(e:JaI),bE e.l=bE c.flatten/\e.n=(↑i.x.R.length:Int)/\DkR e.d=DkR i.d/\(e.l.length<=255/\e.d.b.length+e.l.length+(6:Nat)<=(1048576:Nat)/\0<=e.n/\e.n<=1048576)/\∀(f:Unit),True->∃(g:EdI),g.s=i.s/\bE g.b=bE i.b/\sb g.p.code=sb i.p.code/\g.p.tick=i.p.tick/\g.p.low=i.p.low/\g.p.high=i.p.high/\g.p.wide=i.p.wide/\g.p.rule=i.p.rule/\g.p.top=i.p.top/\g.p.least=i.p.least/\g.p.part=i.p.part/\g.x.q=i.x.q/\GtR g.g=GtR (Gt.mk i.o i.x.W)/\aa rcE g.x.R=aa rcE i.x.R/\ag 1 (iE g.p.months)=ag 1 (iE i.p.months)/\ag 1 (iE g.p.settle)=ag 1 (iE i.p.settle)/\ag 10 (aa zP (yY g.p g.x.B))=zLi (yY i.p i.x.B)/\(zHa g)/\∀(h:Mkt),h.Rep g.p (g.x.X g.p g.s g.b).B (g.x.X g.p g.s g.b).U->(∃(j:Mkt),False)\/∃(o_1:Mkt),sb i.p.code=sb g.p.code/\i.p.tick=g.p.tick/\i.p.low=g.p.low/\i.p.high=g.p.high/\i.p.wide=g.p.wide/\i.p.rule=g.p.rule/\i.p.top=g.p.top/\i.p.least=g.p.least/\i.p.part=g.p.part/\i.x.q+(fV i)=g.x.q+(↑(g.x.M g.p g.s g.b).length:Int)/\(dF i)=e.n+1/\GtR (Gt.mk o_1 (i.x.X i.p i.s i.b).W)=GtR (Gt.mk h (g.x.X g.p g.s g.b).W)/\DkR i.D=DkR (Dk.mk (e.d.b++kM e.l) e.d.safe)/\ag 1 (iE i.p.months)=ag 1 (iE g.p.months)/\ag 1 (iE i.p.settle)=ag 1 (iE g.p.settle)/\aa rcE (gF i)=aa rcE (g.x.R++[eA g.s g.b])/\ag 10 (dC i)=ag 10 (zAw g)/\aa jH i.O=aa jH g.O/\aa xP i.N=aa xP g.N/\(zT i.s i.b).snd=0/\o_1.Rep i.p (i.x.X i.p i.s i.b).B (i.x.X i.p i.s i.b).U)
def pW (a:EpI):Prop:=sb a.p.code=sb a.p.code/\True/\dh a.p.tick/\dh a.p.low/\dh a.p.high/\dh a.p.wide/\dh a.p.rule/\dh a.p.top/\dh a.p.least/\dh a.p.part/\True/\True
def zRb (a:JoI):Prop:=((∀(b:List UInt8),b∈a.L->b.length<=255)/\(zCh a.t).snd.snd=10/\(fsB a.L).length+a.t.length<=1048576)/\a.s<=(fsB a.L++a.t).length/\(fsB a.L++a.t).length<=1048576
def bD (a:EpI):=(aa zP (yY a.p (wU a.p a.L).B))
def y1u (i:EpI):Prop:=
 ∃(a:Prd),sb a.code=sb i.p.code/\iE a.months=iE i.p.months/\a.tick=i.p.tick/\a.low=i.p.low/\a.high=i.p.high/\a.wide=i.p.wide/\a.rule=i.p.rule/\a.top=i.p.top/\a.least=i.p.least/\a.part=i.p.part/\iE a.settle=iE i.p.settle/\(zX a)/\(∀(b:Unit),a.check=0->∃(c:JoI),DkR c.d=DkR i.j.d/\(zRb c)/\∀(d:Unit),True->∃(e:List Int),iE e=iE i.p.months/\e.length<=1000000/\∀(f:Unit),True->True/\∃(g:List Int),iE g=iE i.p.settle/\g.length<=1000000/\∀(h:Unit),True->∃(j:Gt),qT j.m=qT (Mkt.mk a (mO a) [])/\xH j.W=xH []/\True/\∀(k:Unit),True->(pW i)/\(pW i)/\∃(l:Mkt),sb l.p.code=sb j.m.p.code/\l.p.tick=j.m.p.tick/\l.p.low=j.m.p.low/\l.p.high=j.m.p.high/\l.p.wide=j.m.p.wide/\l.p.rule=j.m.p.rule/\l.p.top=j.m.p.top/\l.p.least=j.m.p.least/\l.p.part=j.m.p.part/\zC l.s=zC j.m.s/\zU l.used=zU j.m.used/\ag 1 (iE l.p.months)=ag 1 (iE j.m.p.months)/\ag 1 (iE l.p.settle)=ag 1 (iE j.m.p.settle)/\True/\∀(m:Unit),True->(pW i)/\(pW i)/\∃(n:LkI),sb n.p.code=sb i.p.code/\iE n.p.months=iE e/\n.p.tick=i.p.tick/\n.p.low=i.p.low/\n.p.high=i.p.high/\n.p.wide=i.p.wide/\n.p.rule=i.p.rule/\n.p.top=i.p.top/\n.p.least=i.p.least/\n.p.part=i.p.part/\iE n.p.settle=iE g/\zC n.s=zC l.s/\(n.s.Rep n.p n.B/\BOk n.p n.B)/\∀(p:Unit),True->(pW i)/\∃(q:EpJ),(↑q.k:Int)=0/\dh (sb i.p.code)/\dh i.p.tick/\dh i.p.low/\dh i.p.high/\dh i.p.wide/\dh i.p.rule/\dh i.p.top/\dh i.p.least/\dh i.p.part/\q.x.q=0/\(↑i.L.length:Int)=(↑c.L.length:Int)/\sb q.o.p.code=sb l.p.code/\q.o.p.tick=l.p.tick/\q.o.p.low=l.p.low/\q.o.p.high=l.p.high/\q.o.p.wide=l.p.wide/\q.o.p.rule=l.p.rule/\q.o.p.top=l.p.top/\q.o.p.least=l.p.least/\q.o.p.part=l.p.part/\zC q.o.s=zC n.s/\zU q.o.used=zU l.used/\ag 1 (iE q.o.p.months)=ag 1 (iE l.p.months)/\ag 1 (iE q.o.p.settle)=ag 1 (iE l.p.settle)/\xH q.x.W=xH j.W/\DkR i.j.d'=DkR c.d'/\aa rcE q.x.R=[]/\ag 1 (iE i.p.months)=ag 1 (iE e)/\ag 1 (iE i.p.settle)=ag 1 (iE g)/\aa zP (yY i.p q.x.B)=aa zP (yY n.p n.B)/\aa rcE i.L=aa rcE c.L/\∃(r:EpJ->Prop),∃(s:EpJ->Nat),r q/\∀(t:EpJ),r t->cnd (decide ((↑t.k:Int)<(↑(aa rcE c.L).length:Int))) ((0<=(↑t.k:Int)/\(↑t.k:Int)<(↑(aa rcE i.L).length:Int))/\∃(u:List (List D)),zE (aa rcE i.L) (↑t.k:Int).toNat 0 1=av [D.ro 1 u]/\cnd ((↑u.length:Int)==0) (∃(v:Mkt),False) (((0:Int)<=(0:Int)/\0<(↑u.length:Int))/\∃(v:Int),zE u (au 0) 0 1=av [D.v (.int .u8 v)]/\((0:Int)<=(1:Int)/\1<=(↑u.length:Int))/\∃(w:SbI),w.s=aq.wrap v/\bE w.b=ae (au 1) u/\w.b.length<=1099511627776/\∀(x:Unit),True->cnd ((zT w.s w.b).snd !=0) (∃(y:Mkt),False) (((0:Int)<=(0:Int)/\0<(↑u.length:Int))/\∃(y:Int),zE u (au 0) 0 1=av [D.v (.int .u8 y)]/\((0:Int)<=(1:Int)/\1<=(↑u.length:Int))/\∃(z:EdI),z.s=aq.wrap y/\bE z.b=ae (au 1) u/\sb z.p.code=sb i.p.code/\z.p.tick=i.p.tick/\z.p.low=i.p.low/\z.p.high=i.p.high/\z.p.wide=i.p.wide/\z.p.rule=i.p.rule/\z.p.top=i.p.top/\z.p.least=i.p.least/\z.p.part=i.p.part/\z.x.q=t.x.q/\GtR z.g=GtR (Gt.mk t.o t.x.W)/\aa rcE z.x.R=aa rcE t.x.R/\ag 1 (iE z.p.months)=ag 1 (iE i.p.months)/\ag 1 (iE z.p.settle)=ag 1 (iE i.p.settle)/\ag 10 (aa zP (yY z.p z.x.B))=ag 10 (aa zP (yY i.p t.x.B))/\(zHa z)/\∀(a_1:Mkt),a_1.Rep z.p (z.x.X z.p z.s z.b).B (z.x.X z.p z.s z.b).U->∃(a_2:EpJ),(↑a_2.k:Int)=aq.wrap ((↑t.k:Int)+1)/\sb i.p.code=sb z.p.code/\i.p.tick=z.p.tick/\i.p.low=z.p.low/\i.p.high=z.p.high/\i.p.wide=z.p.wide/\i.p.rule=z.p.rule/\i.p.top=z.p.top/\i.p.least=z.p.least/\i.p.part=z.p.part/\a_2.x.q=z.x.q+(↑(z.x.M z.p z.s z.b).length:Int)/\dh ((↑i.L.length:Int))/\GtR (Gt.mk a_2.o a_2.x.W)=GtR (Gt.mk a_1 (z.x.X z.p z.s z.b).W)/\dh (DkR i.j.d')/\aa rcE a_2.x.R=aa rcE (z.x.R++[eA z.s z.b])/\ag 1 (iE i.p.months)=ag 1 (iE z.p.months)/\ag 1 (iE i.p.settle)=ag 1 (iE z.p.settle)/\ag 10 (aa zP (yY i.p a_2.x.B))=ag 10 (zAw z)/\dh (aa rcE i.L)/\r a_2/\s a_2<s t/\dh (ag 1 (iE l.p.months))/\dh (ag 1 (iE l.p.settle))/\dh (ag 1 (iE j.m.p.months))/\dh (ag 1 (iE j.m.p.settle))/\dh (ag 1 (iE g))/\dh (ag 1 (iE e))/\dh (aj [V.d (D.v (aw (sb i.p.code))),V.own 7,V.d (dI i.p.tick),V.d (dI i.p.low),V.d (dI i.p.high),V.d (dI i.p.wide),V.d (dI i.p.rule),V.d (dI i.p.top),V.d (dI i.p.least),V.d (dI i.p.part),V.own 8] 25)/\dh (ag 1 (iE i.p.settle))/\dh (ag 1 (iE i.p.months))))) (∃(u:Mkt),dh ((0:Int))/\dh (DkR i.j.d')/\dh (sb i.p.code)/\dh i.p.tick/\dh i.p.low/\dh i.p.high/\dh i.p.wide/\dh i.p.rule/\dh i.p.top/\dh i.p.least/\dh i.p.part/\(wU i.p i.L).q=t.x.q/\dh ((↑i.L.length:Int))/\GtR (Gt.mk u (wU i.p i.L).W)=GtR (Gt.mk t.o t.x.W)/\aa rcE (wU i.p i.L).R=aa rcE t.x.R/\dh (ag 1 (iE i.p.months))/\dh (ag 1 (iE i.p.settle))/\ag 10 (bD i)=ag 10 (aa zP (yY i.p t.x.B))/\u.Rep i.p (wU i.p i.L).B (wU i.p i.L).U))/\∀(b:Unit),a.check≠0->cnd (a.check !=0) (∃(c:Mkt),False) (∃(c:JoI),DkR c.d=DkR i.j.d/\(zRb c)/\∀(d:Unit),True->∃(e:List Int),iE e=iE i.p.months/\e.length<=1000000/\∀(f:Unit),True->True/\∃(g:List Int),iE g=iE i.p.settle/\g.length<=1000000/\∀(h:Unit),True->∃(j:Gt),False)
def y7d (e:En):Prop:=
 ∃(i:zOv),aa zP i.v=aa zP e.v/\i.seq=e.q/\(ab i.v<=1099511627776/\∀(b:Sd×Sd),b∈i.v->b.fst.levels.length<=1099511627776/\b.snd.levels.length<=1099511627776)/\∀(o:Unit),True->∃(o:Unit),bE (xQ e.v e.q)=bE (xQ i.v i.seq)/\dh (sb e.p.code)/\dh e.p.tick/\dh e.p.low/\dh e.p.high/\dh e.p.wide/\dh e.p.rule/\dh e.p.top/\dh e.p.least/\dh e.p.part/\e.q=e.q/\ag 10 (aa zP e.v)=zLi e.v/\True
def yLg {s:Int} {b:List UInt8} (h:(zT s b).2=0):0<=s/\s<8:=by
 rw[zT]at h;split at h
 ·cases h
 ·omega
def y7h (i:EoI) (h:edoC.cnd i):y3v i:=by
 obtain⟨o0,x,p,d,s,b⟩:=i;obtain⟨⟨hM,hB⟩,hb,⟨hs1,hs2⟩,⟨hq1,hq2⟩,hR,hd⟩:(o0.Rep p x.B x.U/\BOk p x.B)/\b.length<=254/\(-1<=s/\s<8)/\(0<=x.q/\x.q<=1000000000000000000)/\x.R.length<=1000000/\d.b.length+b.length+7<=1048576:=h;have hls:((lob s).toNat:Int)=ar.wrap s:=(zLr s).symm;unfold y3v zAw zMh vI fV dF gF dC zHa;dsimp only;refine⟨⟨s,b⟩,rfl,rfl,Z9,λ_ _=>Cv.cnd.mk (λe=> ?_) (λe=> ?_)⟩
 ·have e:(zT s b).2≠0:=by simpa using e
  exact⟨⟨⟨o0,x.W⟩,p,x.B,x.U,s,b,yBx x.B x.U x.W s 0 (zT s b).2⟩,rfl,rfl,rfl,⟨⟨hM,hB⟩,Z9,by dsimp only;rw[zTt,y8c e]⟩,λo ho=> .inl ⟨o,trivial,rF8 (rF6 (rF3 ⟨rfl,e,ho⟩))⟩⟩
 ·have e:(zT s b).2=0:=by simpa using e
  have hs:=yLg e;refine⟨trivial,trivial,[[lob s],b],?_,⟨by simp,by simp;omega,by simp⟩,λ_ _=>⟨trivial,⟨d,x.R.length,eA s b⟩,by simp[eA],rfl,rfl,⟨by simp[eA];omega,by simp[eA];omega,Z9,Z9⟩,λ_ _=>⟨⟨o0,x,p,s,b⟩,rF8 (rF8 ⟨rfl,⟨⟨hM,hB⟩,Z9,hs,⟨hq1,hq2⟩,hR⟩,λo ho=> .inr ⟨o,rF6 (rF3 ⟨rfl,by simp,rF7 ⟨rfl,e,ho⟩⟩)⟩⟩)⟩⟩⟩;show[rcE [lob s],rcE b]=_;rw[rcE,rcE,<- hls];rfl
def edo_ok:edoC.ok Tryz.prog 12:=okw mixed (gokc z7y (gokc yHd (gokc z7v (gokc yOb (gokc yTw gok0))))) 0 (λ_=>[]) (λ_=>[]) [] Tryz.func12 y7h
def y2b {p:Prd} {L:List (List UInt8)} {k:Nat} {r:List UInt8} (h:L[k]? =av r):wU p (L.take (k+1))=yRx p (wU p (L.take k)) r:=by
 rw[y9g,h,xBb,wU,xCx];rfl
def yAq {p:Prd} {x:Es} {o:Mkt} (hM:o.Rep p x.B x.U) (hB:BOk p x.B) (s:Int) (b:List UInt8) {o2:Mkt} (ho:o2.Rep p (x.X p s b).B (x.X p s b).U):
 BOk p (x.ed p s b).B/\x.q<=(x.ed p s b).q/\(x.ed p s b).q<=x.q+202000000/\(x.ed p s b).R.length=x.R.length+1:=by
 have hwf:=hM.s.wf hB;have hB2:BOk p (x.X p s b).B:=z1a hwf _ _ _ _;have:(x.M p s b).length<=202000000:=y2k (zXo hwf) (zXo (ho.s.wf hB2));refine⟨hB2,?_,?_,?_⟩
 ·show x.q<=x.q+((x.M p s b).length:Int);omega
 ·show x.q+((x.M p s b).length:Int)<=_;omega
 ·show(x.R++[eA s b]).length=_;rw[y8a];rfl
def y7i (i:EpI) (h:eopC.cnd i):y1u i:=by
 obtain⟨p,s,L,t⟩:=i;obtain⟨⟨hc,hsm⟩,⟨hs,hd⟩,hr,hl⟩:(p.check=0/\p.small)/\((ScI.mk L t).ok/\(JoI.mk s L t).d.ok)/\(∀r∈L,yTq r)/\L.length<=100000:=h;have hB0:BOk p (af p.count []):=BOk.new hc hsm;have hM0:=yPe p;have m6:=(kK hc).m6;have sl:=(kK hc).s1;have hml:(L.map rcE).length=L.length:=y8b _;unfold y1u bD zRb pW zAw zHa zX dI;dsimp only;refine⟨p,rF7 (rF3 ⟨rfl,hsm,λ_ _=>⟨⟨s,L,t⟩,rfl,⟨hs,hd⟩,λ_ _=>⟨p.months,rfl,oM,λ_ _=>⟨trivial,p.settle,rfl,oM,λ_ _=>⟨⟨mk0 p,[]⟩,rfl,rfl,trivial,λ_ _=>⟨k0q,k0q,mk0 p,rF8 (rF4 ⟨rfl,trivial,λ_ _=>⟨k0q,k0q,⟨(mk0 p).s,p,af p.count []⟩,rF8 (rF3 ⟨rfl,⟨hM0.s,hB0⟩,λ_ _=>⟨k0q,⟨mk0 p,es0 p,0⟩,rF8 (rF8 (rF8 (rF7 ⟨rfl,λj=>(j.k<=L.length/\j.x=wU p (L.take j.k))/\(j.o.Rep p j.x.B j.x.U/\BOk p j.x.B)/\(0<=j.x.q/\j.x.q<=202000000*(j.k:Int))/\j.x.R.length=j.k,λj=>L.length-j.k,⟨⟨y9c _,rfl⟩,⟨hM0,hB0⟩,⟨xBo _,xBo _⟩,rfl⟩,?_⟩)))⟩⟩)⟩⟩)⟩⟩⟩⟩⟩,λ_ hne=>absurd hc hne⟩)⟩;rintro⟨o,x,k⟩ ⟨⟨hk,hx⟩,⟨hM,hB⟩,⟨hq1,hq2⟩,hR⟩;dsimp only at hk hx hM hB hq1 hq2 hR ⊢;refine zI (λhlt=> ?_) (λhlt=> ?_)
 ·obtain⟨r,hrk⟩:=yC (l:=L) (i:=k) oM;have hrm:=y8m hrk;obtain⟨hne,hrd⟩:=hr r hrm;have hr255:=hs.1 r hrm;obtain⟨c,b,rfl⟩:∃c b,r=c::b:=by
   cases r with
   |nil=>exact absurd rfl hne
   |cons c b=>exact⟨c,b,rfl⟩
  have hrd:(zT (c.toNat:Int) b).2=0:=hrd;have hc8:=yLg hrd;have wc:aq.wrap (c.toNat:Int)=c.toNat:=w64 oM;rw[y8f]at hr255;refine⟨⟨oM,oM⟩,bE (c::b),z6l hrk,Cv.cnd.mk (λe=>by have e:=beq_iff_eq.1 e;rw[y9,y8f]at e;omega) (λ_=>⟨⟨Z8,by rw[y9,y8f];omega⟩,c.toNat,dO rfl,⟨Z8,by rw[y9,y8f];omega⟩,⟨c.toNat,b⟩,wc.symm,rfl,Z9,λ_ _=>Cv.cnd.mk (λe=>by simp[hrd]at e) (λ_=>⟨⟨Z8,by rw[y9,y8f];omega⟩,c.toNat,dO rfl,⟨Z8,by rw[y9,y8f];omega⟩,⟨o,x,p,c.toNat,b⟩,wc.symm,rF8 (rF7 ⟨rfl,⟨⟨hM,hB⟩,Z9,hc8,⟨hq1,Z9⟩,Z9⟩,λo2 ho=> ?_⟩)⟩)⟩)⟩;obtain⟨t1,t2,t3,t4⟩:=yAq hM hB (c.toNat:Int) b ho;exact⟨⟨o2,x.ed p c.toNat b,k+1⟩,wjn oM,rF8 (rF6 (rF3 ⟨rfl,⟨⟨Z9,by dsimp only;rw[y2b hrk,<- hx];rfl⟩,⟨ho,t1⟩,⟨Z9,Z9⟩,Z9⟩,Z9,k0q⟩))⟩
 ·obtain rfl:k=L.length:=by omega
  rw[xAx]at hx;subst hx;exact⟨o,by repeat'(first|exact rfl|exact hM|apply And.intro)⟩
def yLp:eopC.ok Tryz.prog 18:=okw mixed (gokc yMw (gokc yZt (gokc yCc (gokc zZv (gokc zTy (gokc z0i (gokc z1p (gokc z7y (gokc yTw gok0))))))))) 0 (λ_=>[]) (λi=>y6w i) [] Tryz.func18 y7i
def esn_ok:esnC.ok Tryz.prog 10:=okw (V:=y7d) mixed (gokc enc_ok gok0) 0 (λ_=>[]) (λ_=>[]) [] Tryz.func10 λ(e:En) h=>⟨⟨e.v,e.q⟩,rfl,rfl,h,λ_ _=>⟨(),k0q⟩⟩
@[reducible] def yGy:Nat:=39
structure SdJ where
 x:Es
 o:Mkt
 d:Dk
 O:List (Int×Rep)
 N:List z1s
def y5v (p:Prd) (j:SdJ):List AObj:=zYd p j.x j.o j.d++[.cells [.own 9,.own 10] yGy,z4i j.O,yCg j.N]
def doJ (p:Prd) (e a:Nat):SAnn:={ι:=SdJ,slots0:=λ_=>[(e,.nm 0 0)],rows0:=λj=>zYd p j.x j.o j.d,slots:=λj=>[(e,.nm 0 0),(a,.nm 8 0)],rows:=y5v p}
def y7f (p:Prd):List AObj:=[.cells [sV p.code,.own 9,zA p.tick,zA p.low,zA p.high,zA p.wide,zA p.rule,zA p.top,zA p.least,zA p.part,.own 10] 25,.fro 1 (iE p.months),.fro 1 (iE p.settle)]
def yQi {t:TmI} (h:0<=t.i/\t.i<=1000000):1<=(xE t).id/\(xE t).id<=1099511627776:=by
 have:0<=zG t.c.id 0 30/\zG t.c.id 0 30<=30:=by rw[zG];omega
 rw[xE];split
 ·dsimp only;omega
 ·simp only[y4];omega
def yHy {x:Prd} {c:Cmd} {k:Nat} (hk:k<=1000000):(xE ⟨kprod x,c,k⟩).right=0:=by
 have:=z4j x c k (xE ⟨kprod x,c,k⟩).id (yQi Z9);exact this
def z9c {c:Cmd} (h:c.right=0) (hl:c.label=[]):c.enc.length<=100:=by
 have e:c.enc=lob c.kind::(le c.id 8++c.tail):=by rw[Cmd.enc,y7z (by simp[h])]
 have ht:c.tail.length<=60:=by
  rw[Cmd.tail];split
  ·simp only[y8f,y8a,xK,lI,hl,y8t,y9t];omega
  split
  ·rw[xK];omega
  split
  ·rw[y8a,xK,xK];omega
  ·exact y9c _
 rw[e,y8f,y8a,xK];omega
def yKx (p:Prd) (B:List (List zH)) (U:List Int) (c:Cmd):∃r l,(doF p B U c).R=r::l/\(r.kind=2->(doF p B U c).B=B):=by
 rw[doF];split
 ·exact⟨_,_,rfl,λ_=>rfl⟩
 split
 ·rw[nJ]
  iterate 5 (split;·exact⟨_,_,rfl,λ_=>rfl⟩)
  obtain⟨r,l,h1,h2,_⟩:=(z2m p B U c).2;exact⟨r,l,h1,λe=>by omega⟩
 split
 ·exact⟨_,_,rfl,λ_=>rfl⟩
 split
 ·rw[dD];split
  ·exact⟨_,_,rfl,λ_=>rfl⟩
  split
  ·rw[bN];exact⟨_,_,rfl,λe=>by simp at e⟩
  split
  ·exact⟨_,_,rfl,λ_=>rfl⟩
  rw[uR];exact⟨_,_,rfl,λe=>by simp at e⟩
 split
 ·rw[uR];exact⟨_,_,rfl,λe=>by simp at e⟩
 ·rw[bN];exact⟨_,_,rfl,λe=>by simp at e⟩
def z6c (p:Prd) (B:List (List zH)) (U:List Int) (W:List (Int×Int)) (s:Int) (b:List UInt8):∃o l,(lO p B U W s b).O=o::l/\(o.2.kind=2->(lO p B U W s b).B=B):=by
 rw[lO];split
 ·exact⟨_,_,rfl,λ_=>rfl⟩
 split
 ·exact⟨_,_,rfl,λ_=>rfl⟩
 rw[z0d];split
 ·exact⟨_,_,rfl,λ_=>rfl⟩
 split
 ·exact⟨_,_,rfl,λ_=>rfl⟩
 obtain⟨r,l,h1,h2⟩:=yKx p B U (xN b).1;dsimp only;rw[h1];dsimp only[eL];refine⟨_,_,rfl,λe=>h2 ?_⟩;exact e
def yIu (x:Es) (p:Prd) (s:Int) (b:List UInt8):∃o l,(x.X p s b).O=o::l/\(o.2.kind=2->x.M p s b=[]):=by
 obtain⟨o,l,h1,h2⟩:=z6c p x.B x.U x.W s b;refine⟨o,l,h1,λe=> ?_⟩;rw[Es.M,Es.X,h2 e];exact z9k 0 _
structure AnOk (p:Prd) (x:Es) (d:Dk) (j:SdJ):Prop where
 r:j.o.Rep p j.x.B j.x.U
 ok:BOk p j.x.B
 q1:x.q<=j.x.q
 q2:j.x.q<=x.q+202000000
 n:j.x.R.length<=x.R.length+1
 d:j.d.b.length<=d.b.length+107
 m:∃M:List VM,j.N=wQ x.q M/\j.x.q=x.q+(M.length:Int)
 t:∃o l,j.O=o::l/\(o.2.kind=2->j.N=[])
def AnOk.bad {p:Prd} {x:Es} {d:Dk} {o:Mkt} (h1:o.Rep p x.B x.U) (h2:BOk p x.B) (s w:Int):AnOk p x d ⟨x,o,d,[(s,⟨2,0,0,0,0,0,0,w⟩)],[]⟩:=
 ⟨h1,h2,xBo _,Z9,Z9,Z9,⟨[],rfl,by simp⟩,⟨_,_,rfl,λ_=>rfl⟩⟩
def AnOk.good {p:Prd} {x:Es} {d:Dk} {o o2:Mkt} (h1:o.Rep p x.B x.U) (h2:BOk p x.B) {s:Int} {b:List UInt8} (hb:b.length<=100) (h3:o2.Rep p (x.X p s b).B (x.X p s b).U):
 AnOk p x d ⟨x.ed p s b,o2,⟨d.b++kM (eA s b),d.safe⟩,(x.X p s b).O,wQ x.q (x.M p s b)⟩:=by
 obtain⟨t1,t2,t3,t4⟩:=yAq h1 h2 s b h3;refine⟨h3,t1,t2,t3,Z9,?_,⟨_,rfl,rfl⟩,?_⟩
 ·dsimp only;rw[y8a,dX,eA,y8f];omega
 ·obtain⟨o,l,e1,e2⟩:=yIu x p s b;exact⟨o,l,e1,λe=>by rw[e2 e];rfl⟩
def clOwC:Con:=zWk 2
structure GcI where
 g:Gt
 p:Prd
 B:List (List zH)
 U:List Int
def gcpC:Con:=con1 GcI (λ_=>[.nm 0 0]) (λi=>[GtR i.g]) (λi=>i.g.m.Rep i.p i.B i.U/\BOk i.p i.B) (λ_=> .nm 1 0) (λi=>[GtR i.g,GtR i.g])
def gJ (p:Prd) (e:Nat):SAnn:={ι:=SdJ,slots0:=λ_=>[(e,.nm 0 0)],rows0:=λj=>zYd p j.x j.o j.d,slots:=λ_=>[(e,.nm 0 0)],rows:=λj=>zYd p j.x j.o j.d}
def yTn (es:List (ax×List D)):Prop:=
 ∃(i:List (ax×List D)),i=es/\True/\∀(o:Unit),True->∃(o:Unit),es=i/\es=i/\True
def yZv (es:List (ax×List D)):yTn es=walk Tryz.prog ([(146,vD 109)]) 0 ([]) ([]) [] Tryz.f109 (Tryz.f109.body.getD .skip) (clOwC.pat es) (clOwC.pre es) (clOwC.alts es):=by kernel_rfl
def yXc (hG:GOk Tryz.prog ([(146,vD 109)])) (h:∀(es:List (ax×List D)),clOwC.cnd es->yTn es):clOwC.ok Tryz.prog 109:=vA mixed ([(146,vD 109)]) hG 0 (λ(es:List (ax×List D))=>[]) (λ(es:List (ax×List D))=>[]) [] Tryz.func109 (by kernel_rfl) (by kernel_rfl) (by kernel_rfl) (λ_=>by kernel_rfl) (λ(es:List (ax×List D)) hc=>Eq.mp (yZv es) (h es hc))
def y6o (i:GcI):Prop:=
 ∃(i_1:MkB),ak Mkt 5 yL i_1.m=ak Mkt 5 yL i.g.m/\(i_1.m.Rep i_1.p i_1.B i_1.U/\BOk i_1.p i_1.B)/\∀(o:Unit),True->True/\∃(i_2:List (ax×List D)),i_2=xH i.g.W/\True/\∀(o:Unit),True->∃(o:Unit),ak Mkt 5 yL i.g.m=ak Mkt 5 yL i_1.m/\xH i.g.W=i_2/\ak Mkt 5 yL i.g.m=ak Mkt 5 yL i_1.m/\xH i.g.W=i_2/\True
def yPg:clOwC.ok Tryz.prog 109:=yXc (gokc (zAk _) gok0) λes _=>⟨es,rfl,trivial,λ_ _=>⟨(),rfl,rfl,trivial⟩⟩
def gcp_ok:gcpC.ok Tryz.prog 54:=okw (V:=y6o) mixed (gokc zYw (gokc yPg gok0)) 0 (λ_=>[]) (λ_=>[]) [0] Tryz.func54 λ(i:GcI) h=>⟨⟨i.g.m,i.p,i.B,i.U⟩,rfl,h,λ_ _=>⟨trivial,xH i.g.W,rfl,trivial,λ_ _=>⟨(),rF4 trivial⟩⟩⟩
structure AnE (p:Prd) (x:Es) (d:Dk) (s:Int) (b:List UInt8) (j:SdJ):Prop where
 a:AnOk p x d j
 c:((zT s b).2≠0/\j.x=x/\j.d=d/\j.O=[(s,⟨2,0,0,0,0,0,0,(zT s b).2⟩)]/\j.N=[])\/((zT s b).2=0/\j.x=x.ed p s b/\j.d=⟨d.b++kM (eA s b),d.safe⟩/\j.O=(x.X p s b).O/\j.N=wQ x.q (x.M p s b))
def AnE.bad {p:Prd} {x:Es} {d:Dk} {o:Mkt} (h1:o.Rep p x.B x.U) (h2:BOk p x.B) {s:Int} {b:List UInt8} (h:(zT s b).2≠0):AnE p x d s b ⟨x,o,d,[(s,⟨2,0,0,0,0,0,0,(zT s b).2⟩)],[]⟩:=⟨AnOk.bad h1 h2 s _,.inl ⟨h,rF3 rfl⟩⟩
def AnE.good {p:Prd} {x:Es} {d:Dk} {o o2:Mkt} (h1:o.Rep p x.B x.U) (h2:BOk p x.B) {s:Int} {b:List UInt8} (hb:b.length<=100) (h:(zT s b).2=0) (h3:o2.Rep p (x.X p s b).B (x.X p s b).U):
 AnE p x d s b ⟨x.ed p s b,o2,⟨d.b++kM (eA s b),d.safe⟩,(x.X p s b).O,wQ x.q (x.M p s b)⟩:=⟨AnOk.good h1 h2 hb h3,.inr ⟨h,rF3 rfl⟩⟩
def wtextC:Con:=con1 TxB (λi=>[.nm 0 0,sV i.s]) (λi=>[Wr i.l]) (λi=>i.l.length+300<=1099511627776/\i.s.length<=255) (λ_=>tU) (λi=>[Wr (i.l++lI i.s)])
def pencC:Con:=con1 Cmd (λc=>[zGp c]) (λ_=>[]) (λc=>c.label=[]/\c.right=0) (λc=> .tup [roV 1 (bE c.enc),zA 0]) (λ_=>[])
structure WhI where
 l:List Int
 k:Nat
def zNg (l:List Int) (k:Nat):Int:=match l[k]? with
 |some s=>zG s 0 3
 |none=>0
def whoC:Con:=con1 WhI (λi=>[roV 1 (iE i.l),zA i.k]) (λ_=>[]) (λi=>(∀s∈i.l,i64r s)/\i.k<=1000000) (λi=>zA (zNg i.l i.k)) (λ_=>[])
def tbyC:Con:=con1 TmI (λt=>[prdV t.p,zGp t.c,zA t.i]) (λ_=>[]) (λt=>(∃x,t.p=kprod x)/\t.c.raw/\0<=t.i/\t.i<=1000000) (λt=>roV 1 (bE (xE t).enc)) (λ_=>[])
def freC:Con where
 ι:=Prd
 pat:=λp=>[prdV p]
 pre:=λ_=>[]
 cnd:=λp=>p.check=0/\p.small
 alts:=λp=>[{o:=Mkt,res:=λ_=> .tup [.nm 0 0,.nm 3 0,yK ap],post:=λo=>zYd p (es0 p) o ⟨[],0⟩,rel:=λo=>o.Rep p (es0 p).B (es0 p).U}]
def awC:Con:=con1 Prd (λ_=>[]) (λ_=>[]) (λp=>p=dM 2) (λ_=>yK ap) (λ_=>[])
def yYs:List (Nat×SAnn):=[(4,{ι:=Unit,slots:=λ_=>[],rows:=λ_=>[],opn:=[0]})]
def awJ (p:Prd):List (Nat×SAnn):=[(20,doJ p 2 4),(24,doJ p 2 5),(28,doJ p 2 6)]
def z6g {s:Int} (h0:0<=s/\s<8) {c:Cmd} (h:c.right=0):(zT s c.enc).2=0:=by
 rw[zT,y7z (by omega),yQp h]
def kA1:Cmd:=⟨1,1,3,2,5,4,0,1,[]⟩
def kA2:Cmd:=⟨1,2,1,2,500,6,0,1,[]⟩
def kA3:Cmd:=⟨1,3,0,1,505,9,0,1,[]⟩
def ySr:kA1.right=0:=by decide+kernel
def yTj:kA2.right=0:=by decide+kernel
def ySc:kA3.right=0:=by decide+kernel
def aw1:Es:=(es0 (dM 2)).ed (dM 2) 0 kA1.enc
def aw2:Es:=aw1.ed (dM 2) 1 kA2.enc
def y5y:((es0 (dM 2)).X (dM 2) 0 kA1.enc).O.length=1:=by decide+kernel
def y5z:(aw1.X (dM 2) 1 kA2.enc).O.length=1:=by decide+kernel
def y7j:(aw2.X (dM 2) 2 kA3.enc).O.length=6/\((aw2.X (dM 2) 2 kA3.enc).O.getD 5 (0,⟨0,0,0,0,0,0,0,0⟩)).2=⟨3,3,0,1,505,4,5,0⟩/\(aw2.M (dM 2) 2 kA3.enc).length≠0:=by decide+kernel
structure TpI where
 x:Prd
 p:Prd
 l:List Cmd
 ss:List Int
@[reducible] def TpI.ok (i:TpI):Prop:=i.p=kprod i.x/\i.x.raw/\(∀c∈i.l,c.raw)/\(∀s∈i.ss,i64r s)/\i.l.length<=9223372036854775807/\i.ss.length<=9223372036854775807
def tpC:Con:=con1 TpI (λi=>[prdV i.x,roV 9 (i.l.map cmdE),roV 1 (iE i.ss)]) (λ_=>[]) (λi=>i.ok) (λ_=>yK ap) (λ_=>[])
structure TsJ where
 x:Es
 o:Mkt
 d:Dk
 k:Nat
def tsA (i:TpI):List SAnn:=[{ι:=TsJ,slots:=λj=>[(7,.nm 8 0),(8,.nm 0 0),(11,zA j.k)],rows:=λj=>zYd i.p j.x j.o j.d++y7f i.p}]
def tsJ (i:TpI):List (Nat×SAnn):=[(24,bj 35),(32,gJ i.p 8),(48,bj 93)]
end Sx
