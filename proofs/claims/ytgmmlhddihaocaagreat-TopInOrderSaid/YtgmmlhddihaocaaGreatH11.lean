/- Texts of ours. No condition. -/
import Derived.Test.YtgmmlhddihaocaaGreatH10
set_option linter.all false
open List renaming map->aa,filter_filterMap->ab,filterMap_filter->ac,range->ae,length->af
open Go.IntKind renaming i64->ag
open Bool renaming true->aj,false->ak
open Go.Value renaming int->am,string->ao
open Sx.fw renaming cells->ap,kh->aq,kg->ar,map->au,own->av
open Option renaming filter->aw,some->ax,none->ay
open List.Sublist renaming map->ba
namespace Sx
set_option maxRecDepth 100000
open Go Cv Go.Proofs
@[reducible] def QN (a:iO)(b:ir)(c:iO)(R:Prop):Prop:=zZ a.used=jI (am ag b.id) [D.v (.bool aj)] (zZ c.used)/\aq 1 (iE a.p.dr)=yN c 3/\aq 1 (iE a.p.settle)=yN c 4/\R
def zEv (a:iO) (b:rm) (c:Ly):Prop:=QN a b.c b.m (aa yX b.X.R=aa yX c.out/\a.fy b.p b.X.B b.X.U)
def u6 (a:rm):=(D.v (ao (sb a.c.label)))
def yQd (i:rm):Prop:=
 (∀(a:Value×List D),a∈zZ i.m.used->kr (am ag i.c.id) a.fst=aj)/\∃(a:oh),a.inst=i.c.inst/\zA a.sd=i.c.side/\a.dp=i.c.dp/\a.q=i.c.dq/\zD a.s=yN i.m 1/\(kD a)/\∀(b:ia),b.fy a.p a.r.B->∃(c:Ly),c.left=i.c.dq/\(↑c.k:Int)=0/\aa yX c.out=[[dI 1,dI i.c.id,dI i.c.inst,dI i.c.side,dI i.c.dp,dI i.c.dq,dI i.c.dq,dI 0]]/\∃(d:Ly->Prop),∃(e:Ly->Nat),d c/\∀(f:Ly),d f->du (decide ((↑f.k:Int)<(↑(aa vC a.r.steps).length:Int))) ((0<=(↑f.k:Int)/\(↑f.k:Int)<(↑(aa vC a.r.steps).length:Int))/\∃(g:Int),∃(h:Int),∃(j:Bool),∃(k:List (List D)),zF (aa vC a.r.steps) (↑f.k:Int).toNat 0 4=ax [dI g,dI h,D.v (.bool j),D.ro 6 k]/\∃(l:ta),Qe l.c i.c (l.x.dp=g/\l.x.dq=h/\l.x.je=j/\aa y5 l.x.ig=k/\l.left=ag.wrap (f.left-h)/\Qb l.m.p i.m.p (zD l.m.s=zD b/\QN l.m i.c i.m (((QK l.m.p (l.m.p.settle.length<=1099511627776))/\((-9223372036854775808)<=l.x.dp/\l.x.dp<=9223372036854775807)/\l.x.ig.length<=1000000/\(l.c.side=1\/l.c.side=2)/\∀(m:uV),m∈l.x.ig->m.side=1\/m.side=2)/\fp (((aa yX f.out).length+(aa yX (cU l.m.p l.c l.x l.left)).length)*(64:Nat)<=(140737488355328:Nat)/\∃(n:Ly),n.left=ag.wrap (f.left-h)/\(↑n.k:Int)=ag.wrap ((↑f.k:Int)+1)/\aa yX n.out=aa yX f.out++aa yX (cU l.m.p l.c l.x l.left)/\d n/\e n<e f/\zD l.m.s=zD b/\dm (av 331 4 (aa vC a.r.steps))/\dm (ap [V.d (dI i.c.kind),V.d (dI i.c.id),V.d (dI i.c.inst),V.d (dI i.c.side),V.d (dI i.c.dp),V.d (dI i.c.dq),V.d (dI i.c.least),V.d (dI i.c.time),V.d (u6 i)] 46)/\ap [V.d (D.v (ao (sb l.m.p.code))),V.own 3,V.d (dI l.m.p.tick),V.d (dI l.m.p.low),V.d (dI l.m.p.high),V.d (dI l.m.p.wide),V.d (dI l.m.p.gw),V.d (dI l.m.p.top),V.d (dI l.m.p.least),V.d (dI l.m.p.part),V.own 4,V.nm 1 0,V.mp 2] (137:TypeId)=yN i.m 0/\au (zZ l.m.used)=au (jI (am ag i.c.id) [D.v (.bool aj)] (zZ i.m.used))/\aq 1 (iE l.m.p.dr)=yN i.m 3/\aq 1 (iE l.m.p.settle)=yN i.m 4))))) (du (a.r.left==0) (∃(g:iO),Qb g.p i.m.p (zD g.s=zD b/\zEv g i f)) (du (i.c.time==1) (∃(g:Hg),g.inst=i.c.inst/\g.id=i.c.id/\zA g.sd=i.c.side/\g.dp=i.c.dp/\g.dq=a.r.left/\zD g.s=zD b/\((Q8 g.s.p (g.s.p.settle.length<=1099511627776))/\g.s.fc.length<=1000000/\∀(h:dt),h∈g.s.fc->(h.a.dv.length<=1000000/\(h.a.free≠0->∃(j:Slot),j∈h.a.dv/\j.used=ak)/\∀(j:cI),j∈h.a.dy->j.last=(-1)\/0<=j.last/\j.last<(↑h.a.dv.length:Int))/\h.a.dy.length<=100000/\h.fv.length<=100000/\h.ff.length<=100000/\h.spare.length<=100000)/\fp (∃(j:iO),Qb j.p i.m.p (zD j.s=zD (ia.iJ g).fst/\zEv j i f))) (((aa yX f.out).length+1)*(64:Nat)<=(140737488355328:Nat)/\∃(g:iO),Qb g.p i.m.p (zD g.s=zD b/\QN g i.c i.m (aa yX i.X.R=aa yX f.out++[[dI 4,dI i.c.id,dI i.c.inst,dI i.c.side,dI i.c.dp,dI a.r.left,dI 0,dI 0]]/\g.fy i.p i.X.B i.X.U)))))
@[reducible] def Q9 (a:ir)(b:rm)(R:Prop):Prop:=ap [V.d (dI a.kind),V.d (dI a.id),V.d (dI a.inst),V.d (dI a.side),V.d (dI a.dp),V.d (dI a.dq),V.d (dI a.least),V.d (dI a.time),V.d (u6 b)] 46=ap [V.d (dI a.kind),V.d (dI a.id),V.d (dI a.inst),V.d (dI a.side),V.d (dI a.dp),V.d (dI a.dq),V.d (dI a.least),V.d (dI a.time),V.d (u6 b)] 46/\yN b.m 0=yN b.m 0/\R
def zFi (a:rm):Prop:=Q9 a.c a (dm (yN a.m 2)/\dm (yN a.m 3)/\dm (yN a.m 4))
def zEf (a:Bool->Prop) (b:B8) (c:rm):Prop:=∃(d:Bool),d=ak/\a d/\dm (zD b.s)/\zFi c
def zFs (a:Int->Prop) (b:Int) (c:rm):Prop:=a b/\Q9 c.c c (dm (yN c.m 1)/\dm (yN c.m 2)/\dm (yN c.m 3)/\dm (yN c.m 4))
def zEy (a:Bool->Prop) (b:Bool) (c:oh) (d:B8) (e:rm):Prop:=a b/\zD c.s=zD d.s/\zFi e
def zEx (a:iO) (b:rm) (c:Bp):Prop:=QC a b.m (aa yX b.X.R=[yX (fy.mk 2 c.c.id 0 0 0 0 0 c.oD)]/\a.fy b.p b.X.B b.X.U)
def zFd (a:rm) (b:Bp):Prop:=True/\fp (∃(d:iO),Qb d.p a.m.p (zD d.s=yN a.m 1/\zEx d a b))
def tJ (a:rm) (b:B8) (c:Bp):Prop:=True/\fp (∃(e:iO),Qb e.p a.m.p (zD e.s=zD b.s/\zEx e a c))
def tL (a:rm) (b:rm):Prop:=∀(c:iO),c.fy a.p a.X.B a.X.U->∃(d:iO),Qb d.p c.p (zD d.s=zD c.s/\Qz d c (aa yX b.X.R=aa yX a.X.R/\d.fy b.p b.X.B b.X.U))
def lF (a:rm):Prop:=(a.m.fy a.p a.B a.U/\jo a.p a.B)/\((0<=a.c.inst/\a.c.inst<(↑a.B.length:Int))/\(1<=a.c.dq/\a.c.dq<=1000000)/\(a.c.side=1\/a.c.side=2))/\a.p.dp a.c.inst a.c.dp=0/\a.X=wQ a.p a.B a.U a.c
def yMz (i:rm):Prop:=
 ∃(a:lW),Qa a.p i.m.p (a.a=i.c.inst/\a.b=i.c.dp/\(qK a)/\fp (du (a.p.dp a.a a.b !=0) (∃(c:Bp),Qe c.c i.c (c.oD=a.p.dp a.a a.b/\zFd i c)) (∃(c:Int),∃(d:Int->Prop),du (i.c.time==3) (∃(e:Int),e=i.c.dq/\zFs d e i) (∃(e:Int),e=i.c.least/\zFs d e i)/\∀(e:Int),d e->(∀(f:Value×List D),f∈zZ i.m.used->kr (am ag i.c.id) f.fst=aj)/\∃(f:Bool),∃(g:Bool),(kH (am ag i.c.id) (zZ i.m.used)=ax [D.v (.bool g)]/\f=aj\/kH (am ag i.c.id) (zZ i.m.used)=ay/\[D.v (.bool g)]=[D.v (.bool ak)]/\f=ak)/\du g (∃(h:Bp),Qe h.c i.c (h.oD=25/\zFd i h)) (∃(h:B8),zD h.s=yN i.m 1/\(h.s.fy h.p h.B/\h.B.length<=1000)/\fp (du (decide ((↑(GJ h.B):Int)>=250)) (∃(k:Bp),Qe k.c i.c (k.oD=13/\tJ i h k)) (∃(k:Bool),∃(l:Bool->Prop),du (decide (e>0)) (∃(m:oh),m.inst=i.c.inst/\zA m.sd=i.c.side/\m.dp=i.c.dp/\m.q=i.c.dq/\zD m.s=zD h.s/\(kD m)/\fp (∃(p:Bool),p=decide (m.q-m.r.left<e)/\zEy l p m h i)) (zEf l h i)/\∀(m:Bool),l m->du m (∃(n:Bp),Qe n.c i.c (n.oD=28/\tJ i h n)) (∃(n:Bool),∃(p:Bool->Prop),du (i.c.time==1) (∃(q:oh),q.inst=i.c.inst/\zA q.sd=i.c.side/\q.dp=i.c.dp/\q.q=i.c.dq/\zD q.s=zD h.s/\(kD q)/\fp (∃(s:Bool),s=cZ q.p q.B q.inst q.sd q.dp q.q/\zEy p s q h i)) (zEf p h i)/\∀(q:Bool),p q->du q (∃(r:Bp),Qe r.c i.c (r.oD=23/\tJ i h r)) (∃(r:rm),Qe r.c i.c (Qb r.m.p i.m.p (zD r.m.s=zD h.s/\QC r.m i.m ((lF r)/\tL r i)))))))))))
def yTv (i:Dh):Prop:=
 ∃(iC:A9),iC.id=i.id/\iC.q=i.o.dq/\zD iC.s=yN i.m 1/\(iC.s.fy iC.p iC.B/\iC.B.length<=1000)/\∀(o:ia),o.fy iC.p (yZ iC.B iC.id iC.q).fst->∃(Bi:iO),sb Bi.p.code=sb i.m.p.code/\Bi.p.tick=i.m.p.tick/\Bi.p.low=i.m.p.low/\Bi.p.high=i.m.p.high/\Bi.p.wide=i.m.p.wide/\Bi.p.gw=i.m.p.gw/\Bi.p.top=i.m.p.top/\Bi.p.least=i.m.p.least/\Bi.p.part=i.m.p.part/\zD Bi.s=zD o/\zZ Bi.used=zZ i.m.used/\aq 1 (iE Bi.p.dr)=yN i.m 3/\aq 1 (iE Bi.p.settle)=yN i.m 4/\aa yX i.X.R=[[D.v (.int .i64 4),D.v (.int .i64 i.id),D.v (.int .i64 i.inst),D.v (.int .i64 i.o.side),D.v (.int .i64 i.o.dp),D.v (.int .i64 i.o.dq),D.v (.int .i64 0),D.v (.int .i64 0)]]/\Bi.fy i.p i.X.B i.X.U
def yCz (i:Dh):Prop:=
 ∃(a:A9),a.id=i.id/\a.q=i.q/\zD a.s=yN i.m 1/\(a.s.fy a.p a.B/\a.B.length<=1000)/\∀(b:ia),b.fy a.p (yZ a.B a.id a.q).fst->∃(c:iO),Qb c.p i.m.p (zD c.s=zD b/\QC c i.m (aa yX i.X.R=[[dI 5,dI i.id,dI i.inst,dI i.o.side,dI i.o.dp,dI i.q,dI (ag.wrap (i.o.dq-i.q)),dI 0]]/\c.fy i.p i.X.B i.X.U))
def eK (a:iO) (b:Na) (c:Bp):Prop:=QC a b.m (aa yX b.X.R=[yX (fy.mk 2 c.c.id 0 0 0 0 0 c.oD)]/\a.fy b.p b.X.B b.X.U)
def ZX (a:Na):Prop:=∃(b:ia),zD b=yN a.m 1/\(dQ b)/\fp (∃(d:A9),d.id=a.c.id/\d.q=a.o.dq/\zD d.s=zD b/\(d.s.fy d.p d.B/\d.B.length<=1000)/\∀(e:ia),e.fy d.p (yZ d.B d.id d.q).fst->∃(f:oh),f.inst=a.inst/\zA f.sd=a.o.side/\f.dp=a.c.dp/\f.q=a.c.dq/\zD f.s=zD e/\(kD f)/\fp (du (cZ f.p f.B f.inst f.sd f.dp f.q) (∃(h:Bp),Qe h.c a.c (h.oD=23/\True/\fp (∃(k:iO),Qb k.p a.m.p (zD k.s=zD b/\eK k a h)))) (∃(h:Dh),h.id=a.c.id/\h.inst=a.inst/\h.o.id=a.o.id/\h.o.side=a.o.side/\h.o.dp=a.o.dp/\h.o.dq=a.o.dq/\h.o.top=a.o.top/\Qb h.m.p a.m.p (zD h.m.s=zD b/\QC h.m a.m (((h.m.fy h.p h.B h.U/\jo h.p h.B)/\h.X=jV h.B h.U h.id h.inst h.o)/\∀(j:iO),j.fy h.p h.X.B h.X.U->∃(k:rm),k.c.kind=1/\k.c.id=a.c.id/\k.c.inst=a.inst/\k.c.side=a.o.side/\k.c.dp=a.c.dp/\k.c.dq=a.c.dq/\k.c.least=0/\k.c.time=1/\sb k.c.label=ByteArray.mk #[]/\Qb k.m.p j.p (zD k.m.s=zD j.s/\Qz k.m j ((lF k)/\∀(l:iO),l.fy k.p k.X.B k.X.U->((aa yX h.X.R).length+(aa yX k.X.R).length)*(64:Nat)<=(140737488355328:Nat)/\∃(m:iO),Qb m.p l.p (zD m.s=zD l.s/\Qz m l (aa yX a.X.R=aa yX h.X.R++aa yX k.X.R/\m.fy a.p a.X.B a.X.U)))))))))
def mB (a:Dh):Prop:=(a.m.fy a.p a.B a.U/\jo a.p a.B)/\((-9223372036854775808)<=a.o.dq-a.q/\a.o.dq-a.q<=9223372036854775807)/\a.X=uQ a.B a.U a.id a.q a.inst a.o
def z3j (i:Na):Prop:=
 ∃(a:lW),Qa a.p i.m.p (a.a=i.inst/\a.b=i.c.dp/\(qK a)/\fp (du (a.p.dp a.a a.b !=0) (∃(c:Bp),Qe c.c i.c (c.oD=a.p.dp a.a a.b/\True/\fp (∃(e:iO),Qb e.p i.m.p (zD e.s=yN i.m 1/\eK e i c)))) (du (i.c.dp==i.o.dp) (du (decide (i.c.dq<=i.o.dq)) (∃(c:Dh),c.id=i.c.id/\c.q=ag.wrap (i.o.dq-i.c.dq)/\c.inst=i.inst/\c.o.id=i.o.id/\c.o.side=i.o.side/\c.o.dp=i.o.dp/\c.o.dq=i.o.dq/\c.o.top=i.o.top/\Qb c.m.p i.m.p (zD c.m.s=yN i.m 1/\QC c.m i.m ((mB c)/\∀(d:iO),d.fy c.p c.X.B c.X.U->∃(e:iO),Qb e.p d.p (zD e.s=zD d.s/\Qz e d (aa yX i.X.R=aa yX c.X.R/\e.fy i.p i.X.B i.X.U))))) (ZX i)) (ZX i))))
def Xs (a:Dh) (b:rm):Prop:=∀(c:iO),c.fy a.p a.X.B a.X.U->∃(d:iO),Qb d.p c.p (zD d.s=zD c.s/\Qz d c (aa yX b.X.R=aa yX a.X.R/\d.fy b.p b.X.B b.X.U))
def Xo (a:iO) (b:rm) (c:Bp):Prop:=Qz a b.m (aa yX b.X.R=[yX (fy.mk 2 c.c.id 0 0 0 0 0 c.oD)]/\a.fy b.p b.X.B b.X.U)
@[reducible] def QI (a:zE)(b:A9)(R:Prop):Prop:=a.id=(zW b.B b.id).snd.fst.id/\a.side=(zW b.B b.id).snd.fst.side/\a.dp=(zW b.B b.id).snd.fst.dp/\a.dq=(zW b.B b.id).snd.fst.dq/\a.top=(zW b.B b.id).snd.fst.top/\R
def z9h (a:rm) (b:A9):Prop:=∃(c:Dh),c.id=a.c.id/\c.inst=(zW b.B b.id).fst/\QI c.o b (Qb c.m.p a.m.p (zD c.m.s=zD b.s/\Qz c.m a.m (((c.m.fy c.p c.B c.U/\jo c.p c.B)/\c.X=jV c.B c.U c.id c.inst c.o)/\Xs c a)))
def yJi (a:rm):Prop:=∃(b:A9),b.id=a.c.id/\zD b.s=zD a.m.s/\(b.s.fy b.p b.B/\b.B.length<=1000)/\fp (du (!(zW b.B b.id).snd.snd) (∃(d:Bp),Qe d.c a.c (d.oD=26/\True/\fp (∃(f:iO),Qb f.p a.m.p (zD f.s=zD b.s/\Xo f a d)))) (du (a.c.kind==4) (∃(d:Na),Qe d.c a.c (d.inst=(zW b.B b.id).fst/\QI d.o b (Qb d.m.p a.m.p (zD d.m.s=zD b.s/\Qz d.m a.m ((d.m.fy d.p d.B d.U/\jo d.p d.B/\zW d.B d.c.id=(d.inst,d.o,aj)/\(1<=d.c.dq/\d.c.dq<=1000000)/\d.X=uB d.p d.B d.U d.c d.inst d.o)/\∀(e:iO),e.fy d.p d.X.B d.X.U->∃(f:iO),Qb f.p e.p (zD f.s=zD e.s/\Qz f e (aa yX a.X.R=aa yX d.X.R/\f.fy a.p a.X.B a.X.U))))))) (du (a.c.kind==2) (z9h a b) (du (decide (a.c.dq>=(zW b.B b.id).snd.fst.dq)) (z9h a b) (∃(d:Dh),d.id=a.c.id/\d.q=a.c.dq/\d.inst=(zW b.B b.id).fst/\QI d.o b (Qb d.m.p a.m.p (zD d.m.s=zD b.s/\Qz d.m a.m ((mB d)/\Xs d a))))))))
def Vdo (i:rm):Prop:=
 ∃(a:ir),Qe a i.c (a.label.length<=140737488355328/\fp (du (a.right !=0) (∃(c:Bp),Qe c.c i.c (c.oD=a.right/\True/\fp (∃(e:iO),Qb e.p i.m.p (zD e.s=zD i.m.s/\Xo e i c)))) (du (i.c.kind==1) (∃(c:rm),Qe c.c i.c (Qb c.m.p i.m.p (zD c.m.s=zD i.m.s/\Qz c.m i.m (((c.m.fy c.p c.B c.U/\jo c.p c.B)/\c.c.right=0/\c.c.kind=1/\c.X=bR c.p c.B c.U c.c)/\tL c i)))) ((yJi i)/\dm i.c.id/\True/\yJi i))))
def vH (p:fj) (B:List (List zE)) (U:List Int) (c:ir):wQ p B U c=⟨if(qC p B c.inst (decide (c.side=2)) c.dp c.dq).left≠0/\c.time=1 then(lZ p (qC p B c.inst (decide (c.side=2)) c.dp c.dq).B c.inst c.id c.side c.dp (qC p B c.inst (decide (c.side=2)) c.dp c.dq).left).1 else(qC p B c.inst (decide (c.side=2)) c.dp c.dq).B,CQ U c.id,
 (⟨1,c.id,c.inst,c.side,c.dp,c.dq,c.dq,0⟩::vI p c (qC p B c.inst (decide (c.side=2)) c.dp c.dq).steps c.dq)++if(qC p B c.inst (decide (c.side=2)) c.dp c.dq).left≠0/\c.time≠1 then[⟨4,c.id,c.inst,c.side,c.dp,(qC p B c.inst (decide (c.side=2)) c.dp c.dq).left,0,0⟩]else[]⟩:=by
 rw[wQ]
def zWu {p:fj} {B:List (List zE)} (h:lu p B) (U:List Int) (c:ir):jo p (wQ p B U c).B:=by
 have:=(aG (inst:=c.inst) (sd:=decide (c.side=2)) (dp:=c.dp) _ c.dq B (mg _) h).1.ok;rw[vH];dsimp only;split
 ·exact this.add _ _ _ _ _
 ·exact this
def yGi {p:fj} {B:List (List zE)} (h:lu p B) (U:List Int) (c:ir):jo p (bR p B U c).B:=by
 rw[bR];split
 ·exact h.ok
 split
 ·exact h.ok
 split
 ·exact h.ok
 split
 ·exact h.ok
 split
 ·exact h.ok
 exact zWu h U c
def y4j {p:fj} {B:List (List zE)} (h:lu p B) (U:List Int) (c:ir):jo p (tx p B U c).B:=by
 rw[tx];split
 ·exact h.ok
 split
 ·exact yGi h U c
 split
 ·exact h.ok
 split
 ·rw[uB];split
  ·exact h.ok
  split
  ·exact h.ok.take _ _
  split
  ·exact h.ok
  exact zWu (h.take _ _) U _
 split
 ·exact h.ok.take _ _
 ·exact h.ok.take _ _
def Acc (B:List (List zE)) (U:List Int):Prop:=∀L∈B,∀o∈L,o.id∈U
def o7 {U:List Int} {id k:Int}:k∈CQ U id↔k∈U\/k=id:=by
 rw[CQ];split
 ·rename_i h;constructor
  ·exact .inl
  ·rintro(h2|rfl)
   ·exact h2
   ·exact h
 ·simp
def Acc.mono {B:List (List zE)} {U U':List Int} (h:Acc B U) (hu:∀k∈U,k∈U'):Acc B U':=λL hL o ho=>hu _ (h L hL o ho)
def Acc.take {B:List (List zE)} {U:List Int} (h:Acc B U) (id q:Int):Acc (yZ B id q).1 U:=by
 rw[yZ];split
 ·exact h
 ·rename_i k hk;dsimp only;obtain⟨L0,D0,_⟩:=xR hk;intro L hL o ho;rcases Pt hL with hL|rfl
  ·exact h L hL o ho
  ·rw[zJ D0]at ho;obtain⟨o',ln,_,_,e⟩:=Ud ho;rw[e];exact h L0 (mc D0) o' ln
def Acc.takes {U:List Int}:∀{fs:List uV} {B:List (List zE)},Acc B U->Acc (y8 B fs) U
 |[],B,h=>h
 |f::fs,B,h=>Acc.takes (fs:=fs) (h.take f.id f.dq)
def Acc.run {p:fj} {inst:Int} {sd:Bool} {dp:Int} {U:List Int}:∀(m:Nat) (q:Int) (B:List (List zE)),q.toNat<=m->Acc B U->Acc (qC p B inst sd dp q).B U
 |m,q,B,hm,h=>by
  by_cases hq:q<=0
  ·rw[jS (.inl hq)];exact h
  cases hs:wJ p B inst sd dp q with
  |none=>rw[jS (.inr hs)];exact h
  |some x=>
   obtain⟨t,C⟩:=x;have hC:Acc C U:=by
    rw[wJ]at hs;dsimp only at hs;split at hs
    ·split at hs
     ·cases hs;exact h.takes.takes
     ·cases hs;exact h.takes
    ·cases hs
   have tw:=rD oM hs;cases m with
   |zero=>omega
   |succ m=>
   rw[aP (by omega) hs];exact Acc.run m (q-t.dq) C oM hC
def Acc.add {p:fj} {B:List (List zE)} {U:List Int} (h:Acc B U) (inst id s dp q:Int):Acc (lZ p B inst id s dp q).1 (CQ U id):=by
 have h':Acc B (CQ U id):=h.mono λk hk=>o7.2 (.inl hk)
 rw[lZ];split
 ·exact h'
 split
 ·exact h'
 split
 ·exact h'
 split
 ·exact h'
 rename_i c1 _ _ _;obtain⟨L0,D0⟩:=z6 (l:=B) (i:=inst.toNat) oM;have hm:=h L0 (mc D0);intro L hL o ho;rcases Pt hL with hL|rfl
 ·exact h' L hL o ho
 ·rw[zJ D0,lS]at ho;split at ho
  ·exact o7.2 (.inl (hm o ho))
  split at ho
  ·exact o7.2 (.inl (hm o ho))
  split at ho
  ·exact o7.2 (.inl (hm o ho))
  rcases ku.1 ((Uw L0 s id dp q).mem_iff.1 (pn (f:=(·.id)) ho))with e|hm2
  ·exact o7.2 (.inr e)
  ·obtain⟨o',ln,e⟩:=oe.1 hm2;exact o7.2 (.inl (e▸hm o' ln))
def Acc.enter {p:fj} {B:List (List zE)} {U:List Int} (h:Acc B U) (c:ir):Acc (wQ p B U c).B (wQ p B U c).U:=by
 have hr:=Acc.run (p:=p) (inst:=c.inst) (sd:=decide (c.side=2)) (dp:=c.dp) _ c.dq B (mg _) h;rw[vH];dsimp only;split
 ·exact hr.add _ _ _ _ _
 ·exact hr.mono λk hk=>o7.2 (.inl hk)
structure DoU (p:fj) (B:List (List zE)) (U:List Int) (c:ir) (X:Fw):Prop where
 acc:Acc X.B X.U
 fst:∃r l,X.R=r::l/\(c.right=0->c.kind=1->p.dp c.inst c.dp=0->(r.oD=25↔c.id∈U))/\(∀k,k∈X.U↔k∈U\/(c.kind=1/\r.kind=1/\k=c.id))
def yOg {B:List (List zE)} {U:List Int} (h:Acc B U) {id:Int} (hf:(zW B id).2.2=aj):id∈U:=by
 rw[zW]at hf;split at hf
 ·cases hf
 ·rename_i k hk;obtain⟨L,hL,hh⟩:=xR hk;obtain⟨o,ho,e⟩:=oe.1 (iG.1 hh);exact e▸h L (mc hL) o ho
def yWk {p:fj} {B:List (List zE)} {U:List Int} (h:Acc B U) (c:ir):DoU p B U c (tx p B U c):=by
 have AR:∀oD:Int,(c.right=0->c.kind=1->p.dp c.inst c.dp=0->(oD=25↔c.id∈U))->DoU p B U c ⟨B,U,aW c oD⟩:=λoD hw=>⟨h,_,_,rfl,hw,λk=>⟨.inl,by rintro(x|x);exact x;cases x.2.1⟩⟩
 rw[tx];split
 ·rename_i c1;exact AR _ λe=>absurd e c1
 split
 ·rename_i c1 c2;rw[bR];split
  ·rename_i c3;exact AR _ λ_ _ e=>absurd e c3
  split
  ·rename_i c3 c4;exact AR _ λ_ _ _=>⟨λ_=>c4,λ_=>rfl⟩
  rename_i c4;split
  ·exact AR _ λ_ _ _=>⟨λe=>(by cases e),λe=>absurd e c4⟩
  split
  ·exact AR _ λ_ _ _=>⟨λe=>(by cases e),λe=>absurd e c4⟩
  split
  ·exact AR _ λ_ _ _=>⟨λe=>(by cases e),λe=>absurd e c4⟩
  refine⟨h.enter c,⟨1,c.id,c.inst,c.side,c.dp,c.dq,c.dq,0⟩,_,by rw[vH];rfl,λ_ _ _=>⟨λe=>(by cases e),λe=>absurd e c4⟩,λk=> ?_⟩;rw[vH];dsimp only;rw[o7];exact⟨λx=>x.imp id λe=>⟨c2,rfl,e⟩,λx=>x.imp id λe=>e.2.2⟩
 rename_i c1 c2;have hk:∀(U':List Int) (r:fy) (k:Int),(∀k,k∈U'↔k∈U)->(k∈U'↔k∈U\/(c.kind=1/\r.kind=1/\k=c.id)):=λU' r k e=>by
  rw[e];exact⟨.inl,by rintro(x|x);exact x;exact absurd x.1 c2⟩
 split
 ·exact AR _ λ_ e=>absurd e c2
 rename_i c3;have qt:c.id∈U:=yOg h (by simpa using c3);split
 ·rw[uB];split
  ·exact AR _ λ_ e=>absurd e c2
  split
  ·exact⟨h.take _ _,_,_,rfl,λ_ e=>absurd e c2,λk=>hk _ _ k λ_=>Iff.rfl⟩
  split
  ·exact AR _ λ_ e=>absurd e c2
  refine⟨(h.take _ _).enter _,_,_,rfl,λ_ e=>absurd e c2,λk=>hk _ _ k λk=> ?_⟩;dsimp only;rw[vH];dsimp only;rw[o7];exact⟨by rintro(x|rfl);exact x;exact qt,.inl⟩
 split
 ·exact⟨h.take _ _,_,_,rfl,λ_ e=>absurd e c2,λk=>hk _ _ k λ_=>Iff.rfl⟩
 ·exact⟨h.take _ _,_,_,rfl,λ_ e=>absurd e c2,λk=>hk _ _ k λ_=>Iff.rfl⟩
def Two (L:List zE):Prop:=L=jY L 1++jY L 2
def zAa {inst s:Int} {f:uV}:∀{os:List zE} {sh:List Int},f∈yM inst s os sh->f.side=s/\f.inst=inst/\∃o∈os,f.dp=o.dp
 |[],sh,h=>by cases h
 |o::os,[],h=>by cases h
 |o::os,k::sh,h=>by
  rw[yM]at h;split at h
  ·rcases ku.1 h with rfl|h
   ·exact⟨rfl,rfl,o,jg,rfl⟩
   ·obtain⟨a,b,o',c,d⟩:=zAa h;exact⟨a,b,o',jx _ c,d⟩
  ·obtain⟨a,b,o',c,d⟩:=zAa h;exact⟨a,b,o',jx _ c,d⟩
def FOk (f:uV):Prop:=(f.side=1\/f.side=2)/\-2000000<=f.dp/\f.dp<=2000000
def Y4 {p:fj} {B:List (List zE)} (h:jo p B) (inst:Int) {s:Int} (hs:s=1\/s=2) (q:Int):∀f∈xA p B inst s q,FOk f:=by
 intro f hf;obtain⟨a,_,o,ho,e⟩:=zAa hf;refine⟨by rw[a];exact hs,?_⟩;rw[e];have ho:=(qk.1 ho).1;by_cases hk:inst.toNat<B.length
 ·obtain⟨L,hL⟩:=z6 hk;rw[zJ hL]at ho;exact h.xf hL o ho
 ·rw[mi,ue (by omega)]at ho;cases ho
def W2 (t:kX):Prop:=(-2000000<=t.dp/\t.dp<=2000000)/\(∀f∈t.ig,FOk f)/\t.ig.length<=500
def yRl {p:fj} {B:List (List zE)} (h:lu p B) {inst:Int} (hi:0<=inst/\inst<B.length) {s:Int} (hs:s=1\/s=2) (hn:(z7 p B inst s).2.2=aj): -2000000<=(z7 p B inst s).1.dp/\(z7 p B inst s).1.dp<=2000000:=by
 rw[z7]at hn ⊢;obtain⟨L,hL⟩:=z6 (l:=B) (i:=inst.toNat) oM;rw[zJ hL]at hn ⊢;split
 ·exact Xh (h.ok.xf hL)
 ·rename_i c;rw[dx c]at hn;have hm:=Y2 hn;have:=(qk.1 hm).2;exact OM h.ok.pc (td this)
def yTs {p:fj} {B:List (List zE)} (h:lu p B) {inst:Int} (hi:0<=inst/\inst<B.length) {sd:Bool} {dp q:Int} {t:kX} {B':List (List zE)} (e:wJ p B inst sd dp q=ax (t,B')):W2 t:=by
 have hs:zA (!sd)=1\/zA (!sd)=2:=aC _;have hb:=yRl h hi hs;have qt:=eD h.ok h.od hi hs;rw[wJ]at e;dsimp only at e;split at e
 ·rename_i c;have c1:(z7 p B inst (zA (!sd))).2.2=aj:=by
   cases hx:(z7 p B inst (zA (!sd))).2.2 with
   |false=>rw[hx]at c;cases c
   |true=>rfl
  have hb:=hb c1;obtain⟨_,qt,_⟩:=qt c1;split at e
  ·rename_i c2;obtain⟨_,ok⟩:=qt c2;cases e;refine⟨hb,λf hf=> ?_,?_⟩
   ·rcases qq.1 hf with hf|hf
    ·exact Y4 h.ok _ ok.sa _ f hf
    ·exact Y4 h.ok.takes _ ok.sb _ f hf
   ·dsimp only;rw[iQ];have:=rV (p:=p) h.od (z7 p B inst (zA (!sd))).1.a.inst (z7 p B inst (zA (!sd))).1.a.side (min q (z7 p B inst (zA (!sd))).1.dq);have:=rV (p:=p) (h.takes (fs:=xA p B (z7 p B inst (zA (!sd))).1.a.inst (z7 p B inst (zA (!sd))).1.a.side (min q (z7 p B inst (zA (!sd))).1.dq))).od (z7 p B inst (zA (!sd))).1.b.inst (z7 p B inst (zA (!sd))).1.b.side (min q (z7 p B inst (zA (!sd))).1.dq);omega
  ·cases e;refine⟨hb,λf hf=>Y4 h.ok _ hs _ f hf,?_⟩;have:=rV (p:=p) h.od inst (zA (!sd)) (min q (z7 p B inst (zA (!sd))).1.dq);dsimp only;omega
 ·cases e
def zFb (a:A9):Prop:=QB a.s (True)
def yQu (i:A9):Prop:=
 (mY i)/\∃(a:Bool),∃(b:Int),(tP i b a)/\du (!a) (ez ((zW i.B i.id).fst=0/\(zW i.B i.id).snd.fst.id=0/\(zW i.B i.id).snd.fst.side=0/\(zW i.B i.id).snd.fst.dp=0/\(zW i.B i.id).snd.fst.dq=0/\(zW i.B i.id).snd.fst.top=ak/\(zW i.B i.id).snd.snd=ak/\Qc i.s.p (dm (ar 211 dt 6 zR i.s.fc ay)/\zFb i))) ((0<=b/\b<(↑i.s.fc.length:Int))/\b.toNat<i.s.fc.length/\∃(c:dt),i.s.fc[b.toNat]?=ax c/\∃(d:Cr),d.id=i.id/\yE d.b=yE c/\d.b.fy d.L/\fp (∃(f:dt),yE d.b=yE f/\EK b i.s.fc (ez ((zW i.B i.id).fst=b/\(zW i.B i.id).snd.fst.id=(cT d.L d.id).id/\(zW i.B i.id).snd.fst.side=(cT d.L d.id).side/\(zW i.B i.id).snd.fst.dp=(cT d.L d.id).dp/\(zW i.B i.id).snd.fst.dq=(cT d.L d.id).dq/\(zW i.B i.id).snd.fst.top=(cT d.L d.id).top/\(zW i.B i.id).snd.snd=aj/\Qc i.s.p (ar 211 dt 6 zR i.s.fc ay=ar 211 dt 6 zR (i.s.fc.set b.toNat f) ay/\zFb i)))))
def y4z (i:A9) (h:FW.du i):yQu i:=by
 obtain⟨hR,hB⟩:i.s.fy i.p i.B/\i.B.length<=1000:=h;have uf:=hR.at_ i.id;unfold yQu EK fp ez Qc mY tP zFb QB dI;rw[zW];cases hi:dZ i.B i.id with
 |none=>
  rw[hi]at uf;exact⟨jG _ _,ak,0,.inr ⟨by rw[rL,uf];rfl,rfl,rfl⟩,Cv.du.mk (λ_=>⟨(),ic⟩) (λe=>absurd e Z8)⟩
 |some k=>
  rw[hi]at uf;obtain⟨L,hL,hh⟩:=xR hi;have hk:=(ju.1 hL).1;obtain⟨b,hb⟩:=z6 (l:=i.s.fc) (i:=k) (by rw[hR.bl];exact hk);have DX:=hR.bk k b L hb hL;have wg:=hR.bl;refine⟨jG _ _,aj,k,.inl ⟨by rw[rL,uf];rfl,rfl⟩,Cv.du.mk (λe=>absurd e Z8) (λ_=> ?_)⟩;dsimp only;rw[ml,zJ hL];have hs:=kL hb;refine⟨⟨oM,oM⟩,oM,b,hb,⟨b,L,i.id,0⟩,rfl,rfl,DX,λ_ _=>⟨b,rfl,rfl,oM,(),?_⟩⟩;rw[hs]
  (repeat'(first|exact trivial|exact rfl|apply And.intro))
def yMh:FW.ok Tryz.prog 160:=ix mixed (dz z3m fx) 0 (λ_=>[]) (λ_=>[]) [0] Tryz.func160 y4z
def zXu (id:Int) (U:List Int):∀p∈zZ U,kr (am ag id) p.1=aj:=by
 intro p hp;obtain⟨k,_,rfl⟩:=oe.1 hp;rfl
def zVf (id:Int):∀U:List Int,jI (am ag id) [D.v (.bool aj)] (zZ U)=zZ (CQ U id)
 |[]=>rfl
 |k::U=>by
  have ih:=zVf id U;have e:aZ (am ag id) (am ag k)=decide (id=k):=by simp[aZ,xw]
  show(bif aZ (am ag id) (am ag k)then(am ag k,[D.v (.bool aj)])::zZ U else(am ag k,[D.v (.bool aj)])::jI (am ag id) [D.v (.bool aj)] (zZ U))=_;rw[e,ih];by_cases c:id=k
  ·rw[kx c,cond_true,CQ,fk (by rw[c];exact jg)];rfl
  ·rw[jq c,cond_false,CQ,CQ];have hm:id∈k::U↔id∈U:=by simp[c]
   by_cases d:id∈U
   ·rw[fk d,fk (hm.2 d)];rfl
   ·rw[dx d,dx (λx=>d (hm.1 x))];rfl
def zXk (id:Int):∀U:List Int,kH (am ag id) (zZ U)=if id∈U then ax [D.v (.bool aj)]else ay
 |[]=>rfl
 |k::U=>by
  have ih:=zXk id U;have e:aZ (am ag id) (am ag k)=decide (id=k):=by simp[aZ,xw]
  show(bif aZ (am ag id) (am ag k)then ax [D.v (.bool aj)]else kH (am ag id) (zZ U))=_;rw[e,ih];by_cases c:id=k
  ·rw[kx c,cond_true,fk (by rw[c];exact jg)]
  ·rw[jq c,cond_false];have hm:id∈k::U↔id∈U:=by simp[c]
   by_cases d:id∈U
   ·rw[fk d,fk (hm.2 d)]
   ·rw[dx d,dx (λx=>d (hm.1 x))]
def yOv (id:Int) (U:List Int):kH (am ag id) (zZ U)=ax [D.v (.bool (decide (id∈U)))]/\decide (id∈U)=aj\/kH (am ag id) (zZ U)=ay/\[D.v (.bool (decide (id∈U)))]=[D.v (.bool ak)]/\decide (id∈U)=ak:=by
 rw[zXk];by_cases c:id∈U
 ·rw[fk c,kx c];exact .inl ⟨rfl,rfl⟩
 ·rw[dx c,jq c];exact .inr ⟨rfl,rfl,rfl⟩
def Xm {p:fj} {inst:Int} {sd:Bool} {dp:Int}:∀(m:Nat) (q:Int) (B:List (List zE)),q.toNat<=m->lu p B->0<=inst/\inst<B.length->
 (∀t∈(qC p B inst sd dp q).steps,W2 t/\1<=t.dq)/\((qC p B inst sd dp q).steps.map (·.dq)).sum=q-(qC p B inst sd dp q).left
 |m,q,B,hm,h,hi=>by
  by_cases hq:q<=0
  ·rw[jS (.inl hq)];exact⟨λt ht=>(by cases ht),by simp⟩
  cases hs:wJ p B inst sd dp q with
  |none=>rw[jS (.inr hs)];exact⟨λt ht=>(by cases ht),by simp⟩
  |some x=>
   obtain⟨t,C⟩:=x;obtain⟨k1,k2⟩:=Vn h hs;have tw:=rD oM hs;cases m with
   |zero=>omega
   |succ m=>
   obtain⟨i1,i2⟩:=Xm (p:=p) (inst:=inst) (sd:=sd) (dp:=dp) m (q-t.dq) C oM k1 (by rw[k2];exact hi);rw[aP (by omega) hs];refine⟨λu hu=> ?_,?_⟩
   ·rcases ku.1 hu with rfl|hu
    ·exact⟨yTs h hi hs,tw.1⟩
    ·exact i1 u hu
   ·dsimp only;rw[iT,oR,i2];omega
def yXf {α:Type} {f:α->List fy} (hf:∀x,(f x).length<=3):∀l:List α,(l.flatMap f).length<=3*l.length
 |[]=>mg _
 |x::l=>by
  have:=yXf hf l;have:=hf x;rw[xu,iQ,iY];omega
def zWa (p:fj) (c:ir) (x:kX) (left:Int):(cU p c x left).length<=3*x.ig.length+3:=by
 rw[cU,iQ];have:=yXf (λf=>YE p x (cR f)) x.ig;have:=YE p x ⟨3,c.id,c.inst,c.side,x.dp,x.dq,left,0⟩;omega
def Ts {l:List kX} (h:∀t∈l,W2 t/\1<=t.dq):(l.length:Int)<=(l.map (·.dq)).sum:=by
 induction l with
 |nil=>exact yl _
 |cons t l ih=>
  have:=ih λu hu=>h u (jx _ hu)
  have:=(h t jg).2;rw[iT,oR,iY];omega
def y4i (i:rm) (h:Gd.du i):yQd i:=by
 obtain⟨m,p,B,U,c,X⟩:=i;have h':(m.fy p B U/\jo p B)/\((0<=c.inst/\c.inst<B.length)/\(1<=c.dq/\c.dq<=1000000)/\(c.side=1\/c.side=2))/\p.dp c.inst c.dp=0/\X=wQ p B U c:=h;clear h;obtain⟨⟨⟨ep,hR,eu⟩,hB⟩,⟨⟨h0,h1⟩,hq,hs⟩,Jw,hX⟩:=h';subst ep eu hX;have zt:=hR.wf hB;obtain⟨k1,k2,k3⟩:=aG (inst:=c.inst) (sd:=decide (c.side=2)) (dp:=c.dp) _ c.dq B (mg _) zt;have k3:=k3 oM;obtain⟨s1,s2⟩:=Xm (inst:=c.inst) (sd:=decide (c.side=2)) (dp:=c.dp) _ c.dq B (mg _) zt ⟨h0,h1⟩;have hX:=vH m.p B m.used c;have B6:=OM hB.pc Jw;unfold yQd Q8 QK QN Qb fp Qe kD u6 zEv QN dI;dsimp only;rw[zVf,hX];refine⟨zXu _ _,⟨m.s,m.p,B,c.inst,decide (c.side=2),c.dp,c.dq⟩,rfl,fA hs,rfl,rfl,rfl,⟨hR,hB,⟨h0,h1⟩,hq.1,hq.2⟩,λo ho=> ?_⟩;have er:oh.r ⟨m.s,m.p,B,c.inst,decide (c.side=2),c.dp,c.dq⟩=qC m.p B c.inst (decide (c.side=2)) c.dp c.dq:=rfl;rw[er]at ho ⊢;clear hX er;generalize qC m.p B c.inst (decide (c.side=2)) c.dp c.dq=R at*;obtain⟨ts,lf,RB⟩:=R;dsimp only at*;have hlen:=Ts s1;have e4:(ts.map vC).length=ts.length:=iz ..;refine⟨⟨c.dq,0,[⟨1,c.id,c.inst,c.side,c.dp,c.dq,c.dq,0⟩]⟩,rfl,rfl,rfl,λj=>j.k<=ts.length/\j.left=lf+((ts.drop j.k).map (·.dq)).sum/\(⟨1,c.id,c.inst,c.side,c.dp,c.dq,c.dq,0⟩::vI m.p c ts c.dq)=j.out++vI m.p c (ts.drop j.k) j.left/\j.out.length<=1+1503*j.k,λj=>ts.length-j.k,⟨oQ _,by dsimp only;rw[Eu,s2];omega,rfl,mg _⟩,?_⟩
 rintro⟨left,k,out⟩ ⟨j1,j2,j3,j4⟩;dsimp only at j1 j2 j3 j4 ⊢;have e5:(out.map yX).length=out.length:=iz ..;refine zI (λc1=> ?_) (λc1=> ?_)
 ·obtain⟨t,ht⟩:=z6 (l:=ts) (i:=k) oM;have hd:ts.drop k=t::ts.drop (k+1):=by rw[DQ (by omega),(ju.1 ht).2]
  obtain⟨⟨t1,t2,t3⟩,t4⟩:=s1 t (mc ht);have yt:=Ts (l:=ts.drop (k+1)) λu hu=>s1 u (Jp hu)
  have hsk:((ts.drop k).map (·.dq)).sum<=(ts.map (·.dq)).sum:=by
   have:=Ts (l:=ts.take k) λu hu=>s1 u (Po hu)
   have e:(ts.map (·.dq)).sum=((ts.take k).map (·.dq)).sum+((ts.drop k).map (·.dq)).sum:=by
    rw[<- Nh,<- jz,A3]
   omega
  rw[hd,iT,oR]at j2 hsk;rw[hd,vI]at j3;have PX:=zWa m.p c t (left-t.dq);have e6:((cU m.p c t (left-t.dq)).map yX).length=(cU m.p c t (left-t.dq)).length:=iz ..;have hw:ag.wrap (left-t.dq)=left-t.dq:=iD oM;refine⟨⟨oM,oM⟩,t.dp,t.dq,t.je,t.ig.map y5,kf ht (by simp[vC]) rfl,?_⟩;rw[hw];refine⟨⟨⟨m.p,o,CQ m.used c.id⟩,c,t,left-t.dq⟩,iH (iH (rn (jh ⟨rfl,⟨⟨hB.pc,hB.ps⟩,⟨Z9,Z9⟩,Z9,hs,λf hf=>(t2 f hf).1⟩,λ_ _=>⟨by dsimp only;rw[e5,e6];omega,⟨left-t.dq,k+1,out++cU m.p c t (left-t.dq)⟩,rfl,um oM,by dsimp only;rw[jz],⟨Z9,Z9,by dsimp only;rw[j3,km],by dsimp only;rw[iQ];omega⟩,Z9,ic⟩⟩)))⟩
 have hk:k=ts.length:=by omega
 subst hk;rw[List.drop_of_length_le (mg _)]at j2 j3;rw[vI,pd]at j3;rw[<- j3];rw[<- j3]at e5 j4;have hRB:=k1.ok;refine Cv.du.mk (λe=> ?_) (λe=>Cv.du.mk (λe2=> ?_) (λe2=> ?_))
 ·have e:lf=0:=by simpa using e
  rw[dx (by omega),dx (by omega),pd];exact⟨⟨m.p,o,CQ m.used c.id⟩,iH (oE ⟨rfl,ho,rfl⟩)⟩
 ·have e:¬lf=0:=by simpa using e
  have e2:c.time=1:=by simpa using e2
  rw[dx (show ¬(lf≠0/\c.time≠1)by omega),fk (show lf≠0/\c.time=1 from⟨e,e2⟩),pd];have ha:=(ho.add c.inst c.id (decide (c.side=2)) c.dp lf).1;rw[fA hs]at ha;exact⟨⟨o,c.inst,c.id,decide (c.side=2),c.dp,lf⟩,rfl,rfl,fA hs,rfl,rfl,rfl,ho.fit hRB,λ_ _=>⟨⟨m.p,(ia.iJ ⟨o,c.inst,c.id,decide (c.side=2),c.dp,lf⟩).1,CQ m.used c.id⟩,iH (oE ⟨rfl,ha,rfl⟩)⟩⟩
 ·have e:¬lf=0:=by simpa using e
  have e2:¬c.time=1:=by simpa using e2
  rw[fk (show lf≠0/\c.time≠1 from⟨e,e2⟩),dx (show ¬(lf≠0/\c.time=1)by omega)];exact⟨by rw[e5];omega,⟨m.p,o,CQ m.used c.id⟩,iH (oT ⟨rfl,by rw[jz];rfl,rfl,ho,rfl⟩)⟩
def z3r:Gd.ok Tryz.prog 197:=ix mixed (dz yAc (dz yPf (dz ySk fx))) 0 (λ_=>[]) (λi=>y1l i) [] Tryz.func197 y4i
def zVh:IJ.ok Tryz.prog 162:=ix (V:=yTv) mixed (dz T9 fx) 0 (λ_=>[]) (λ_=>[]) [] Tryz.func162 λ(i:Dh) h=>by
 obtain⟨m,p,B,U,id,q,inst,o,X⟩:=i;have h':(m.fy p B U/\jo p B)/\X=jV B U id inst o:=h;clear h;obtain⟨⟨⟨ep,hR,eu⟩,hB⟩,hX⟩:=h';subst ep eu hX;have:=xQ m.p;have:=hB.bl;exact⟨⟨m.s,m.p,B,id,o.dq⟩,rfl,rfl,rfl,⟨hR,Z9⟩,λo' ho=>⟨⟨m.p,o',m.used⟩,iH (oE ⟨rfl,ho,rfl⟩)⟩⟩
def zWm:Iy.ok Tryz.prog 163:=ix (V:=yCz) mixed (dz T9 fx) 0 (λ_=>[]) (λ_=>[]) [] Tryz.func163 λ(i:Dh) h=>by
 obtain⟨m,p,B,U,id,q,inst,o,X⟩:=i;have h':(m.fy p B U/\jo p B)/\ie (o.dq-q)/\X=uQ B U id q inst o:=h;clear h;obtain⟨⟨⟨ep,hR,eu⟩,hB⟩,hw,hX⟩:=h';subst ep eu hX;have:=xQ m.p;have:=hB.bl;have hw:=iD hw;unfold yCz QC Qb dI;dsimp only;rw[hw];exact⟨⟨m.s,m.p,B,id,q⟩,rfl,rfl,rfl,⟨hR,Z9⟩,λo' ho=>⟨⟨m.p,o',m.used⟩,iH (oE ⟨rfl,ho,rfl⟩)⟩⟩
def zWg {c:ir} (h:c.right=0):(if c.kind=1 then c.gv else if c.kind≠2/\jD c.dq=ak then 24 else if c.kind=4/\uK c.dp=ak then 23 else 0)=0:=by
 rw[ir.right]at h;by_cases c1:c.kind<1\/4<c.kind
 ·rw[fk c1]at h;cases h
 rw[dx c1]at h;by_cases c2:c.id<1\/1099511627776<c.id
 ·rw[fk c2]at h;cases h
 rw[dx c2]at h;exact h
def UN {c:ir} (h:c.right=0) (hk:c.kind=1):(c.side=1\/c.side=2)/\(1<=c.dq/\c.dq<=1000000)/\(0<=c.least/\c.least<=c.dq):=by
 have h:=zWg h;rw[fk hk,ir.gv]at h;by_cases c1:c.side≠1/\c.side≠2
 ·rw[fk c1]at h;cases h
 rw[dx c1]at h;by_cases c2:c.time<1\/3<c.time
 ·rw[fk c2]at h;cases h
 rw[dx c2]at h;cases c3:jD c.dq with
 |false=>rw[fk c3]at h;cases h
 |true=>
  rw[dx (by rw[c3];decide)]at h;by_cases c4:c.least<0\/c.dq<c.least
  ·rw[fk c4]at h;cases h
  simp only[jD,ld,sm]at c3;exact⟨oM,c3,oM⟩
def mQ {c:ir} (h:c.right=0) (hk:¬c.kind=1) (tf:¬c.kind=2):1<=c.dq/\c.dq<=1000000:=by
 have h:=zWg h;rw[dx hk]at h;cases c3:jD c.dq with
 |false=>rw[fk ⟨tf,c3⟩]at h;cases h
 |true=>
  simp only[jD,ld,sm]at c3;exact c3
def y2p (i:rm) (h:F2.du i):yMz i:=by
 obtain⟨m,p,B,U,c,X⟩:=i;have h':(m.fy p B U/\jo p B)/\c.right=0/\c.kind=1/\X=bR p B U c:=h;clear h;obtain⟨⟨hM,hB⟩,hr,hkd,hX⟩:=h';obtain⟨ep,hR,eu⟩:=hM;subst ep eu;have hM:m.fy m.p B m.used:=⟨rfl,hR,rfl⟩
 obtain⟨hs,hq,hl⟩:=UN hr hkd;have wg:=hB.bl;have xy:=xQ m.p;unfold yMz QC Qa Qb fp Qe kD lF tL Qb Qz tJ Qb fp zFd Qb fp zEx QC zEy zFs Q9 zEf zFi Q9 u6 qK Q8 dI;dsimp only;refine⟨⟨m.p,c.inst,c.dp⟩,iH (oT ⟨rfl,hB.ps,λ_ _=>Cv.du.mk (λe=> ?_) (λe=> ?_)⟩)⟩
 ·have e:m.p.dp c.inst c.dp≠0:=by simpa using e
  have hx:X=⟨B,m.used,aW c (m.p.dp c.inst c.dp)⟩:=by rw[hX,bR,fk e]
  exact⟨⟨c,m.p.dp c.inst c.dp⟩,oE (jh ⟨rfl,trivial,λ_ _=>⟨m,iH (oT ⟨rfl,by rw[hx];rfl,by rw[hx];exact hM⟩)⟩⟩)⟩
 have Jw:m.p.dp c.inst c.dp=0:=by simpa using e
 have qt:=XU Jw;have hib:0<=c.inst/\c.inst<B.length:=by omega
 rw[bR,dx (by rw[Jw];decide)]at hX;refine⟨0,λl=>l=c.K5,Cv.du.mk (λe=>⟨c.dq,rfl,by rw[ir.K5,fk (by simpa using e)],ic⟩) (λe=>⟨c.least,rfl,by rw[ir.K5,dx (by simpa using e)],ic⟩),?_⟩;rintro _ rfl;refine⟨zXu _ _,_,_,yOv _ _,zI (λe=> ?_) (λe=> ?_)⟩
 ·have hx:X=⟨B,m.used,aW c 25⟩:=by rw[hX,fk e]
  exact⟨⟨c,25⟩,oE (jh ⟨rfl,trivial,λ_ _=>⟨m,iH (oT ⟨rfl,by rw[hx];rfl,by rw[hx];exact hM⟩)⟩⟩)⟩
 rw[dx e]at hX;refine⟨⟨m.s,m.p,B,0,ak⟩,rfl,⟨hR,Z9⟩,λ_ _=>zI (λe=> ?_) (λe=> ?_)⟩
 ·have hx:X=⟨B,m.used,aW c 13⟩:=by rw[hX,fk (by dsimp only at e;omega)]
  exact⟨⟨c,13⟩,oE (jh ⟨rfl,trivial,λ_ _=>⟨m,iH (oT ⟨rfl,by rw[hx];rfl,by rw[hx];exact hM⟩)⟩⟩)⟩
 rw[dx (by dsimp only at e;omega)]at hX;have pg:oh.ok ⟨m.s,m.p,B,c.inst,decide (c.side=2),c.dp,c.dq⟩:=⟨hR,hB,hib,hq.1,hq.2⟩
 refine⟨aj,λb=>b=decide (0<c.K5/\c.dq-(qC m.p B c.inst (decide (c.side=2)) c.dp c.dq).left<c.K5),zI (λe=>⟨⟨m.s,m.p,B,c.inst,decide (c.side=2),c.dp,c.dq⟩,rfl,fA hs,rfl,rfl,rfl,pg,λ_ _=>⟨_,rfl,decide_eq_decide.2 ⟨λx=>⟨e,x⟩,λx=>x.2⟩,ic⟩⟩) (λe=>⟨ak,rfl,(jq λx=>e x.1).symm,ic⟩),?_⟩;rintro _ rfl;refine zI (λe=> ?_) (λe=> ?_)
 ·have hx:X=⟨B,m.used,aW c 28⟩:=by rw[hX,fk e]
  exact⟨⟨c,28⟩,oE (jh ⟨rfl,trivial,λ_ _=>⟨m,iH (oT ⟨rfl,by rw[hx];rfl,by rw[hx];exact hM⟩)⟩⟩)⟩
 rw[dx e]at hX;refine⟨aj,λb=>b=decide (c.time=1/\cZ m.p B c.inst (decide (c.side=2)) c.dp c.dq=aj),Cv.du.mk (λe=>⟨⟨m.s,m.p,B,c.inst,decide (c.side=2),c.dp,c.dq⟩,rfl,fA hs,rfl,rfl,rfl,pg,λ_ _=>⟨_,rfl,?_,ic⟩⟩) (λe=>⟨ak,rfl,(jq λx=> ?_).symm,ic⟩),?_⟩
 ·have e:c.time=1:=by simpa using e
  dsimp only;cases hb:cZ m.p B c.inst (decide (c.side=2)) c.dp c.dq with
  |true=>exact(kx ⟨e,rfl⟩).symm
  |false=>exact(jq λx=>by cases x.2).symm
 ·rw[x.1]at e;cases e
 rintro _ rfl;refine zI (λe=> ?_) (λe=> ?_)
 ·have hx:X=⟨B,m.used,aW c 23⟩:=by rw[hX,fk e]
  exact⟨⟨c,23⟩,oE (jh ⟨rfl,trivial,λ_ _=>⟨m,iH (oT ⟨rfl,by rw[hx];rfl,by rw[hx];exact hM⟩)⟩⟩)⟩
 rw[dx e]at hX;exact⟨⟨m,m.p,B,m.used,c,X⟩,iH (iH (A6 ⟨rfl,⟨⟨hM,hB⟩,⟨hib,hq,hs⟩,Jw,hX⟩,λo ho=>⟨o,iH (oE ho)⟩⟩))⟩
def yLi:F2.ok Tryz.prog 159:=ix mixed (dz l9 (dz z9g (dz z7z (dz yGs (dz z3g (dz z3r fx)))))) 0 (λ_=>y1q) (λ_=>[]) [] Tryz.func159 y2p
def z0w {p:fj} {B:List (List zE)} (h:lu p B) {id inst:Int} {o:zE} (hf:zW B id=(inst,o,aj)):(0<=inst/\inst<B.length)/\Kr o:=by
 rw[zW]at hf;split at hf
 ·cases hf
 ·rename_i k hk;obtain⟨L,hL,hh⟩:=xR hk;rw[zJ hL]at hf;cases hf;have iq:=(ju.1 hL).1;obtain⟨o,ho,e⟩:=oe.1 (iG.1 hh);have hg:=gY (h.od k L hL).2.1 ho;rw[e]at hg;rw[hg];exact⟨oM,(h.od k L hL).1 o ho⟩
def zUk (p:fj) (c:ir):∀(l:List kX) (left:Int),(∀t∈l,W2 t/\1<=t.dq)->(vI p c l left).length<=1503*l.length
 |[],_,_=>mg _
 |t::l,left,h=>by
  have a:=zUk p c l (left-t.dq) λu hu=>h u (jx _ hu)
  have b:=zWa p c t (left-t.dq);have d:=(h t jg).1.2.2;rw[vI,iQ,iY];omega
def zEk {p:fj} {B:List (List zE)} (h:lu p B) (U:List Int) {c:ir} (hi:0<=c.inst/\c.inst<B.length) (hq:1<=c.dq/\c.dq<=1000000):(wQ p B U c).R.length<=1503000002:=by
 obtain⟨s1,s2⟩:=Xm (inst:=c.inst) (sd:=decide (c.side=2)) (dp:=c.dp) _ c.dq B (mg _) h hi;have k3:=(aG (inst:=c.inst) (sd:=decide (c.side=2)) (dp:=c.dp) _ c.dq B (mg _) h).2.2 oM;have:=Ts s1;have:=zUk p c _ c.dq s1;rw[vH];dsimp only;rw[iQ,iY];split
 ·rw[iY,Al];omega
 ·rw[Al];omega
def yLv (i:Na) (h:BO.du i):z3j i:=by
 obtain⟨m,p,B,U,c,inst,o,X⟩:=i;have h':m.fy p B U/\jo p B/\zW B c.id=(inst,o,aj)/\(1<=c.dq/\c.dq<=1000000)/\X=uB p B U c inst o:=h;clear h;obtain⟨hM,hB,hf,hq,hX⟩:=h';obtain⟨ep,hR,eu⟩:=hM;subst ep eu;have hM:m.fy m.p B m.used:=⟨rfl,hR,rfl⟩
 have zt:=hR.wf hB;obtain⟨qt,G9⟩:=z0w zt hf;have wy:=G9.s;have hoq:=G9.q;have wg:=hB.bl;have xy:=xQ m.p;unfold z3j QC Qa Qb fp Qe Qz ZX QC Qb fp Qe Qz kD dQ MQ QL lF mB eK QC qK Q8;dsimp only;refine⟨⟨m.p,inst,c.dp⟩,iH (oT ⟨rfl,hB.ps,λ_ _=>Cv.du.mk (λe=> ?_) (λe=> ?_)⟩)⟩
 ·have e:m.p.dp inst c.dp≠0:=by simpa using e
  have hx:X=⟨B,m.used,aW c (m.p.dp inst c.dp)⟩:=by rw[hX,uB,fk e]
  exact⟨⟨c,m.p.dp inst c.dp⟩,oE (jh ⟨rfl,trivial,λ_ _=>⟨m,iH (oT ⟨rfl,by rw[hx];rfl,by rw[hx];exact hM⟩)⟩⟩)⟩
 have Jw:m.p.dp inst c.dp=0:=by simpa using e
 rw[uB,dx (by rw[Jw];decide)]at hX;have hw:ag.wrap (o.dq-c.dq)=o.dq-c.dq:=iD oM;rw[hw];refine(λhT=>Cv.du.mk (λe1=>zI (λe2=> ?_) (λe2=>hT λx=>e2 x.2)) (λe1=>hT λx=>by rw[x.1]at e1;simp at e1)) (λ(hn:¬(c.dp=o.dp/\c.dq<=o.dq))=> ?_)
 ·have e1:c.dp=o.dp:=by simpa using e1
  rw[fk ⟨e1,e2⟩]at hX;exact⟨⟨m,m.p,B,m.used,c.id,o.dq-c.dq,inst,o,X⟩,iH (iH (oT ⟨rfl,⟨⟨hM,hB⟩,⟨Z9,Z9⟩,hX⟩,λo' ho=>⟨o',iH (oE ho)⟩⟩))⟩
 rw[dx hn]at hX;have hBt:=hB.take c.id o.dq;refine⟨m.s,rfl,hR.small hB,λ_ _=>⟨⟨m.s,m.p,B,c.id,o.dq⟩,rfl,rfl,rfl,⟨hR,Z9⟩,λo' ln=>⟨⟨o',m.p,(yZ B c.id o.dq).1,inst,decide (o.side=2),c.dp,c.dq⟩,rfl,fA wy,rfl,rfl,rfl,⟨ln,hBt,by dsimp only;rw[sW];exact qt,hq.1,hq.2⟩,λ_ _=>Cv.du.mk (λe=> ?_) (λe=> ?_)⟩⟩⟩
 ·have hx:X=⟨B,m.used,aW c 23⟩:=by rw[hX,fk e]
  exact⟨⟨c,23⟩,oE (jh ⟨rfl,trivial,λ_ _=>⟨m,iH (oT ⟨rfl,by rw[hx];rfl,by rw[hx];exact hM⟩)⟩⟩)⟩
 rw[dx (by rw[e];decide)]at hX;refine⟨⟨m,m.p,B,m.used,c.id,0,inst,o,jV B m.used c.id inst o⟩,iH (iH (jh ⟨rfl,⟨⟨hM,hB⟩,rfl⟩,λo1 ho1=>⟨⟨o1,m.p,(yZ B c.id o.dq).1,m.used,⟨1,c.id,inst,o.side,c.dp,c.dq,0,1,[]⟩,wQ m.p (yZ B c.id o.dq).1 m.used ⟨1,c.id,inst,o.side,c.dp,c.dq,0,1,[]⟩⟩,iH (iH (A6 ⟨rfl,⟨⟨ho1,hBt⟩,⟨by dsimp only;rw[sW];exact qt,hq,wy⟩,Jw,rfl⟩,λo2 Jz=>⟨?_,o2,rfl,rfl,rfl,rfl,rfl,rfl,rfl,rfl,rfl,rfl,rfl,rfl,rfl,?_,?_⟩⟩))⟩⟩))⟩
 ·have:=zEk (zt.take c.id o.dq) m.used (c:=⟨1,c.id,inst,o.side,c.dp,c.dq,0,1,[]⟩) (by dsimp only;rw[sW];exact qt) hq;dsimp only;rw[iz,iz];have e1:(jV B m.used c.id inst o).R.length=1:=rfl;omega
 ·rw[hX,<- jz];rfl
 ·rw[hX];exact Jz
def z6z:BO.ok Tryz.prog 161:=ix mixed (dz l9 (dz z9g (dz OV (dz T9 (dz z3g (dz zVh (dz zWm (dz z3r fx)))))))) 0 (λ_=>[]) (λ_=>[]) [] Tryz.func161 yLv
def vdo (i:rm) (h:doC.du i):Vdo i:=by
 obtain⟨m,p,B,U,c,X⟩:=i;have h':(m.fy p B U/\jo p B)/\c.label.length<=140737488355328/\ie c.dq/\X=tx p B U c:=h;clear h;obtain⟨⟨hM,hB⟩,hlb,hqr,hX⟩:=h';obtain⟨ep,hR,eu⟩:=hM;subst ep eu;have hM:m.fy m.p B m.used:=⟨rfl,hR,rfl⟩
 have zt:=hR.wf hB;have wg:=hB.bl;have xy:=xQ m.p;unfold Vdo Qb fp Qe Qz tL Qb Qz yJi QI Qb fp Qe Qz mB z9h QI Qb Qz Xs Qb Qz Xo Qz;dsimp only;refine⟨c,iH ⟨rfl,hlb,λ_ _=>Cv.du.mk (λe=> ?_) (λe=> ?_)⟩⟩
 ·have e:c.right≠0:=by simpa using e
  have hx:X=⟨B,m.used,aW c c.right⟩:=by rw[hX,tx,fk e]
  exact⟨⟨c,c.right⟩,oE (jh ⟨rfl,trivial,λ_ _=>⟨m,iH (oT ⟨rfl,by rw[hx];rfl,by rw[hx];exact hM⟩)⟩⟩)⟩
 have hr:c.right=0:=by simpa using e
 rw[tx,dx (by rw[hr];decide)]at hX;refine Cv.du.mk (λe=> ?_) (λe=> ?_)
 ·have e:c.kind=1:=by simpa using e
  rw[fk e]at hX;exact⟨⟨m,m.p,B,m.used,c,X⟩,iH (iH (A6 ⟨rfl,⟨⟨hM,hB⟩,hr,e,hX⟩,λo ho=>⟨o,iH (oE ho)⟩⟩))⟩
 have hk:¬c.kind=1:=by simpa using e
 rw[dx hk]at hX;refine(λhT=>⟨hT,rfl,trivial,hT⟩) ?_;refine⟨⟨m.s,m.p,B,c.id,0⟩,rfl,rfl,⟨hR,Z9⟩,λ_ _=>Cv.du.mk (λe=> ?_) (λe=> ?_)⟩
 ·have e:(zW B c.id).2.2=ak:=by simpa using e
  have hx:X=⟨B,m.used,aW c 26⟩:=by rw[hX,fk e]
  exact⟨⟨c,26⟩,oE (jh ⟨rfl,trivial,λ_ _=>⟨m,iH (oT ⟨rfl,by rw[hx];rfl,by rw[hx];exact hM⟩)⟩⟩)⟩
 have e:(zW B c.id).2.2=aj:=by simpa using e
 rw[dx (by rw[e];decide)]at hX;dsimp only;have hf:zW B c.id=((zW B c.id).1,(zW B c.id).2.1,aj):=by rw[<- e]
 generalize (zW B c.id).1=inst at*;generalize (zW B c.id).2.1=o at*;obtain⟨qt,G9⟩:=z0w zt hf;have hoq:=G9.q;refine Cv.du.mk (λe4=> ?_) (λe4=>Cv.du.mk (λe2=> ?_) (λe2=>zI (λe3=> ?_) (λe3=> ?_)))
 ·have e4:c.kind=4:=by simpa using e4
  rw[fk e4]at hX;exact⟨⟨m,m.p,B,m.used,c,inst,o,X⟩,iH (iH (iH (jh ⟨rfl,⟨hM,hB,hf,mQ hr hk (by rw[e4];decide),hX⟩,λo' ho=>⟨o',iH (oE ho)⟩⟩)))⟩
 all_goals
  have e4:¬c.kind=4:=by simpa using e4
  rw[dx e4]at hX
 ·have e2:c.kind=2:=by simpa using e2
  rw[fk (.inl e2)]at hX;exact⟨⟨m,m.p,B,m.used,c.id,0,inst,o,X⟩,iH (iH (jh ⟨rfl,⟨⟨hM,hB⟩,hX⟩,λo' ho=>⟨o',iH (oE ho)⟩⟩))⟩
 ·rw[fk (.inr (by omega))]at hX;exact⟨⟨m,m.p,B,m.used,c.id,0,inst,o,X⟩,iH (iH (jh ⟨rfl,⟨⟨hM,hB⟩,hX⟩,λo' ho=>⟨o',iH (oE ho)⟩⟩))⟩
 ·have e2:¬c.kind=2:=by simpa using e2
  have hq:=mQ hr hk e2;rw[dx (by omega)]at hX;exact⟨⟨m,m.p,B,m.used,c.id,c.dq,inst,o,X⟩,iH (iH (oT ⟨rfl,⟨⟨hM,hB⟩,⟨Z9,Z9⟩,hX⟩,λo' ho=>⟨o',iH (oE ho)⟩⟩))⟩
def y5v:doC.ok Tryz.prog 111:=ix mixed (dz XZ (dz z9g (dz yMh (dz yLi (dz z6z (dz zVh (dz zWm fx))))))) 0 (λ_=>[]) (λ_=>[]) [0] Tryz.func111 vdo
structure xAe (p:fj) (B:List (List zE)) (q:Int) (g:List uV) (k:Nat) (s pr:Int):Prop where
 lt:k<B.length
 Wk:s=1\/s=2
 eq:g=yM k s (qy (B.getD k []) s pr) (qU ⟨p,qy (B.getD k []) s pr,q⟩)
 sh:Od ((qy (B.getD k []) s pr).map (·.dq)) (qU ⟨p,qy (B.getD k []) s pr,q⟩) q
 ne:g≠[]
def zXy {inst s:Int}:∀{os:List zE} {sh:List Int},sh.length=os.length->yM inst s os sh=[]->(∀n,0<=sh.getD n 0)->sh.sum=0
 |[],[],_,_,_=>rfl
 |[],_::_,h,_,_=>by cases h
 |_::_,[],h,_,_=>by cases h
 |o::os,x::sh,h,h2,h3=>by
  rw[yM]at h2;split at h2
  ·cases h2
  ·have:=zXy (os:=os) (sh:=sh) (by simpa using h) h2 λn=>h3 (n+1)
   have h0:0<=x:=h3 0;rw[oR];omega
def TD {p:fj} {B:List (List zE)} (h:lu p B) {k:Nat} {L:List zE} (hL:B[k]? =ax L) {s:Int} (hs:s=1\/s=2) {q:Int} (hb:(gm L s).2=aj) (hq:1<=q/\q<=(gm L s).1.dq):
 xAe p B q (xA p B k s q) k s (gm L s).1.dp:=by
 have ho:=h.od k L hL;have hsr:=h.uo k L hL s hs;have JB:MM B k s=qy L s (gm L s).1.dp:=by rw[MM,ml,zJ hL]
 obtain⟨v,vs,hl⟩:∃v vs,x7 L s=v::vs:=by
  cases e:x7 L s with
  |nil=>rw[gm,e]at hb;cases hb
  |cons v vs=>exact⟨v,vs,rfl⟩
 have hv:(gm L s).1=v:=by rw[gm,hl]
 rw[hv]at hq JB ⊢;have hgs:=YO hsr (v:=v) (vs:=vs) (by rw[<- hl];rfl);have uf:qy L s v.dp=(jY L s).filter λo=>decide (o.dp=v.dp):=yMp L s v.dp
 have hvq:v.dq=((qy L s v.dp).map (·.dq)).sum:=by
  have:=congrArg Lv.dq hgs.1;rw[uf];exact this
 have hr:yV ((qy L s v.dp).map (·.dq)) q=aj:=by
  refine z7x ?_ oM (λx hx=> ?_) oM
  ·rw[iz];exact wu (GX _ _) ho.2.2
  ·obtain⟨o,hm,rfl⟩:=oe.1 hx;exact(ho.1 o (qk.1 hm).1).q
 have hS:=zIc h.ok.pc hr;have e:xA p B k s q=yM k s (qy (B.getD k []) s v.dp) (qU ⟨p,qy (B.getD k []) s v.dp,q⟩):=by
  rw[xA,JB,zJ hL]
 refine⟨(ju.1 hL).1,hs,e,by rw[zJ hL];exact hS,λe2=> ?_⟩;rw[e,zJ hL]at e2;have:=zXy (by rw[hS.len,iz]) e2 λn=>(hS.bd n).1
 have:=hS.sum;omega
def zNr {j:Nat} {L:List zE}:∀{fs:List uV} {B:List (List zE)},B[j]? =ax L->(∀f∈fs,kW L f.id=ak)->(y8 B fs)[j]? =ax L
 |[],B,h,_=>h
 |f::fs,B,h,hf=>by
  refine zNr (fs:=fs) (B:=(yZ B f.id f.dq).1) ?_ λg hg=>hf g (jx _ hg)
  rw[yZ];split
  ·exact h
  ·rename_i k hk;dsimp only;have jf:k≠j:=by
    rintro rfl;obtain⟨L',zx,hh⟩:=xR hk;rw[h]at zx;cases zx;rw[hf f jg]at hh;cases hh
   rw[List.getElem?_set_ne jf];exact h
def Z0 {inst s:Int} {f:uV}:∀{os:List zE} {sh:List Int},f∈yM inst s os sh->∃o∈os,f.id=o.id
 |[],sh,h=>by cases h
 |o::os,[],h=>by cases h
 |o::os,k::sh,h=>by
  rw[yM]at h;split at h
  ·rcases ku.1 h with rfl|h
   ·exact⟨o,jg,rfl⟩
   ·obtain⟨o',c,d⟩:=Z0 h;exact⟨o',jx _ c,d⟩
  ·obtain⟨o',c,d⟩:=Z0 h;exact⟨o',jx _ c,d⟩
def dH {p:fj} {B:List (List zE)} (h:lu p B) {k j:Nat} (jf:k≠j) {L L':List zE} (hL:B[k]? =ax L) (zx:B[j]? =ax L') (s q:Int):(y8 B (xA p B k s q))[j]? =ax L':=by
 refine zNr zx λf hf=> ?_
 obtain⟨o,ho,e⟩:=Z0 hf;have ho:=(qk.1 ho).1;rw[ml,zJ hL]at ho;cases hh:kW L' f.id with
 |false=>rfl
 |true=>
  have a:=h.inst zx (iG.1 hh);have b:=h.inst hL (id:=f.id) (by rw[e];exact oe.2 ⟨o,ho,rfl⟩);rw[a]at b;cases b;exact absurd rfl jf
def xv (l:List Lv):List (Int×Int):=l.map λv=>(v.dp,v.dq)
def Eh (l:List (Int×Int)) (x:Int):List (Int×Int):=match l with
 |[]=>[]
 |(p,q)::l=>if q<=x then l else(p,q-x)::l
def Ui {A:List zE} {id x:Int} (h:∀o∈A,o.id≠id):yU A id x=A:=by
 rw[yU]
 induction A with
 |nil=>rfl
 |cons a A ih=>
  rw[Jn,dx (h a jg)];simp only;rw[ih λo ho=>h o (jx _ ho)]
def z6k {id x:Int}:∀{A:List zE} {o:zE},(A.map (·.id)).Nodup->o∈A->o.id=id->((yU A id x).map (·.dq)).sum=(A.map (·.dq)).sum-x
 |a::A,o,hn,ho,e=>by
  rw[iT,ve]at hn;rw[yU,Jn];by_cases h:a.id=id
  ·have A7:∀y∈A,y.id≠id:=by
    intro y hy e2;exact hn.1 (by rw[h,<- e2];exact oe.2 ⟨y,hy,rfl⟩)
   have ht:A.filterMap (λo=>if o.id=id then if o.dq=x then ay else ax {o with dq:=o.dq-x}else ax o)=A:=Ui A7;rw[fk h];by_cases h2:a.dq=x
   ·rw[fk h2];simp only;rw[ht,iT,oR];omega
   ·rw[dx h2];simp only;rw[ht,iT,iT,oR,oR];simp only;omega
  ·rw[dx h];simp only;have ho:o∈A:=by
    rcases ku.1 ho with rfl|ho
    ·exact absurd e h
    ·exact ho
   have:=z6k (x:=x) hn.2 ho e;rw[yU]at this;rw[iT,iT,oR,oR,this];omega
def z9x (L:List zE) (id q pr:Int):(yU L id q).filter (λo=>decide (o.dp=pr))=yU (L.filter λo=>decide (o.dp=pr)) id q:=by
 rw[yU,yU,ab,ac];refine u0 λo _=> ?_
 by_cases e1:o.id=id
 ·rw[fk e1];by_cases e2:o.dq=q
  ·rw[fk e2];simp
  ·rw[dx e2];by_cases e3:o.dp=pr<;>simp[aw,e3]
 ·rw[dx e1];by_cases e3:o.dp=pr<;>simp[aw,e3]
def z4t (L:List zE) (id q pr:Int):(yU L id q).filter (λo=> !decide (o.dp=pr))=yU (L.filter λo=> !decide (o.dp=pr)) id q:=by
 rw[yU,yU,ab,ac];refine u0 λo _=> ?_
 by_cases e1:o.id=id
 ·rw[fk e1];by_cases e2:o.dq=q
  ·rw[fk e2];simp
  ·rw[dx e2];by_cases e3:o.dp=pr<;>simp[aw,e3]
 ·rw[dx e1];by_cases e3:o.dp=pr<;>simp[aw,e3]
def yNs {A:List zE} {id x:Int} {y:zE} (h:y∈yU A id x):∃z∈A,y.dp=z.dp:=by
 obtain⟨z,hz,e⟩:=HB.1 h;refine⟨z,hz,?_⟩;split at e
 ·split at e
  ·cases e
  ·cases e;rfl
 ·cases e;rfl
def yKz {A:List zE} (h:A≠[]):∃v vs,qg A=v::vs:=by
 cases A with
 |nil=>exact absurd rfl h
 |cons a A=>
  rw[qg];split
  ·exact⟨_,_,rfl⟩
  ·split<;>exact⟨_,_,rfl⟩
def zQy:∀{l:List Int} {a:Int},(∀q∈l,0<=q)->a∈l->a<=l.sum
 |b::l,a,h,ha=>by
  rw[oR];have h1:=h b jg;have h2:=N8 λq hq=>h q (jx _ hq)
  rcases ku.1 ha with rfl|ha
  ·omega
  ·have:=zQy (λq hq=>h q (jx _ hq)) ha;omega
def yJk {s:Int} {F:List zE} (hs:B0 s F) (hn:(F.map (·.id)).Nodup) {o:zE} (ho:o∈F) {v:Lv} {vs:List Lv} (hg:qg F=v::vs) (hp:o.dp=v.dp) {x:Int} (hq:∀y∈yU F o.id x,1<=y.dq) (yu:B0 s (yU F o.id x)):
 xv (qg (yU F o.id x))=Eh (xv (qg F)) x:=by
 obtain⟨a1,a2,a3⟩:=YO hs hg;have vh:o∈F.filter λo=>decide (o.dp=v.dp):=qk.2 ⟨ho,by simpa using hp⟩
 have sx:=z6k (x:=x) (hn.sublist (ba _ (HC (p:=λo=>decide (o.dp=v.dp)) (l:=F)))) vh rfl;have hv:v.dq=((F.filter λo=>decide (o.dp=v.dp)).map (·.dq)).sum:=congrArg Lv.dq a1
 have yz:yU (F.filter λo=> !decide (o.dp=v.dp)) o.id x=F.filter λo=> !decide (o.dp=v.dp):=by
  refine Ui λy hy e=> ?_
  obtain⟨y1,y2⟩:=qk.1 hy;have h1:=gY hn y1;have h2:=gY hn ho;rw[e,h2]at h1;rw[<- h1]at y2;simp[hp]at y2
 rw[hg];have hd:Eh (xv (v::vs)) x=if v.dq<=x then xv vs else(v.dp,v.dq-x)::xv vs:=rfl
 rw[hd];rw[<- z9x,<- hv]at sx;rw[<- z4t]at yz;have rf:∀y∈yU F o.id x,∃z∈F,y.dp=z.dp:=λy hy=>yNs hy
 generalize yU F o.id x=F' at*;by_cases hE:F'.filter (λo=>decide (o.dp=v.dp))=[]
 ·rw[hE]at sx;have sx:(0:Int)=v.dq-x:=sx;rw[fk (by omega),a2,<- yz];congr 2;symm;rw[KY];intro y hy;have:=Pp.1 hE y hy;simpa using this
 ·obtain⟨y,hy⟩:=List.exists_mem_of_ne_nil _ hE;obtain⟨y1,y2⟩:=qk.1 hy;have y2:y.dp=v.dp:=by simpa using y2
  obtain⟨v',Am,pw⟩:=yKz (A:=F') (by rintro rfl;cases y1);obtain⟨b1,b2,b3⟩:=YO yu pw;obtain⟨w,wr,hw,hwp⟩:=rI pw;have e1:=b3 y y1;obtain⟨z,hz,hzp⟩:=rf w (by rw[hw];exact jg);have e2:=a3 z hz;rw[<- hzp,hwp]at e2;rw[y2]at e1;have ep:v'.dp=v.dp:=yNv e1 e2;have Fi:v'.dq=((F'.filter λo=>decide (o.dp=v'.dp)).map (·.dq)).sum:=congrArg Lv.dq b1
  rw[ep,sx]at Fi;have Ad:1<=v.dq-x:=by
   rw[<- sx];have hyq:=hq y y1;have h0:∀q∈(F'.filter λo=>decide (o.dp=v.dp)).map (·.dq),0<=q:=by
    intro q tw;obtain⟨u,hu,rfl⟩:=oe.1 tw;have:=hq u (qk.1 hu).1;omega
   have:=zQy h0 (oe.2 ⟨y,hy,rfl⟩);omega
  rw[dx (by omega),pw,b2,ep,yz,<- a2];show(v'.dp,v'.dq)::xv vs=_;rw[ep,Fi]
def yMg {L:List zE} {s pr Q:Int} {rest:List (Int×Int)} (h:xv (x7 L s)=(pr,Q)::rest):∃v vs,x7 L s=v::vs/\v.dp=pr/\v.dq=Q/\xv vs=rest:=by
 cases e:x7 L s with
 |nil=>rw[e]at h;cases h
 |cons v vs=>rw[e]at h;cases h;exact⟨v,vs,jh rfl⟩
def zXl (L:List zE) (s id q:Int):jY (yU L id q) s=yU (jY L s) id q:=by
 rw[jY,jY,yU,yU,ab,ac];refine u0 λo _=> ?_
 by_cases e1:o.id=id
 ·rw[fk e1];by_cases e2:o.dq=q
  ·rw[fk e2];simp
  ·rw[dx e2];by_cases e3:o.side=s<;>simp[aw,e3]
 ·rw[dx e1];by_cases e3:o.side=s<;>simp[aw,e3]
def zUi {inst s:Int}:∀{os:List zE} {sh:List Int},(∀n,0<=sh.getD n 0)->sh.sum=0->yM inst s os sh=[]
 |[],sh,_,_=>by rw[yM];simp
 |_::_,[],_,_=>by rw[yM];simp
 |o::os,x::sh,h,h2=>by
  have h0:0<=x:=h 0;have h1:0<=sh.sum:=N8 λy hy=>by
   obtain⟨n,hn⟩:=Np hy;have:=h (n+1);have e:(x::sh).getD (n+1) 0=y:=zJ (by rw[A5];exact hn);omega
  rw[oR]at h2;rw[yM,dx (by omega)];exact zUi (λn=>h (n+1)) oM
def yVt {pr Q x y:Int} {rest:List (Int×Int)} (h:x<Q):Eh (Eh ((pr,Q)::rest) x) y=Eh ((pr,Q)::rest) (x+y):=by
 have e:Eh ((pr,Q)::rest) x=(pr,Q-x)::rest:=dx oM;rw[e];show(if Q-x<=y then rest else(pr,Q-x-y)::rest)=if Q<=x+y then rest else(pr,Q-(x+y))::rest
 by_cases c:Q<=x+y
 ·rw[fk (by omega),fk c]
 ·rw[dx (by omega),dx c,show Q-x-y=Q-(x+y)by omega]
def Zs {p:fj} {k:Nat} {i s pr:Int} (hs:s=1\/s=2):∀{os:List zE} {sh:List Int} {B:List (List zE)} {L:List zE} {Q:Int} {rest:List (Int×Int)},lu p B->B[k]? =ax L->
 (∀o∈os,o∈L/\o.side=s/\o.dp=pr)->(os.map (·.id)).Nodup->sh.length=os.length->(∀n,0<=sh.getD n 0/\sh.getD n 0<=(os.map (·.dq)).getD n 0)->xv (x7 L s)=(pr,Q)::rest->sh.sum<=Q->1<=Q->
 ∃L1,(y8 B (yM i s os sh))[k]? =ax L1/\xv (x7 L1 s)=Eh ((pr,Q)::rest) sh.sum/\∀z,z≠s->x7 L1 z=x7 L z
 |[],sh,B,L,Q,rest,h,hL,_,_,hl,_,hd,_,hQ=>by
  have:sh=[]:=List.length_eq_zero_iff.1 hl;subst this;refine⟨L,hL,?_,λ_ _=>rfl⟩;rw[hd,List.sum_nil];show _=if Q<=0 then rest else(pr,Q-0)::rest
  rw[dx (by omega),Int.sub_zero]
 |o::os,[],B,L,Q,rest,h,hL,_,_,hl,_,_,_,_=>by cases hl
 |o::os,x::sh,B,L,Q,rest,h,hL,ho,hn,hl,hb,hd,sx,hQ=>by
  have hx:0<=x/\x<=o.dq:=hb 0;have Ao:∀n,0<=sh.getD n 0/\sh.getD n 0<=(os.map (·.dq)).getD n 0:=λn=>hb (n+1)
  have HS:sh.length=os.length:=by simpa using hl
  rw[iT,ve]at hn;obtain⟨EC,wy,HO⟩:=ho o jg;have ln:∀y∈os,y∈L/\y.side=s/\y.dp=pr:=λy hy=>ho y (jx _ hy)
  rw[oR]at sx ⊢;have PU:0<=sh.sum:=N8 λy hy=>by
   obtain⟨n,hn⟩:=Np hy;have:=(Ao n).1;have e:sh.getD n 0=y:=zJ hn;omega
  rw[yM];by_cases c:0<x
  ·rw[fk c];have HQ:=h.od k L hL;have hk:=(ju.1 hL).1;have hi:=h.inst hL (pn (f:=(·.id)) EC)
   have hg:=gY HQ.2.1 EC;have hh:kW L o.id=aj:=iG.2 (pn (f:=(·.id)) EC)
   have ht:(yZ B o.id x).1=B.set k (yU L o.id x):=by
    simp only[yZ,hi,zJ hL];rw[x4,dx (by rw[hh];decide),dx (by rw[hg];omega)]
   have hW:=h.take o.id x;show ∃L1,(y8 (yZ B o.id x).1 (yM i s os sh))[k]? =ax L1/\_;rw[ht]at hW ⊢;have zx:(B.set k (yU L o.id x))[k]? =ax (yU L o.id x):=uM hk;obtain⟨v,vs,e1,e2,e3,e4⟩:=yMg hd;have hF:o∈jY L s:=qk.2 ⟨EC,by simpa using wy⟩;have yt:=zXl L s o.id x;have iq:=yJk (h.uo k L hL s hs) (HQ.2.1.sublist (ba _ HC)) hF (v:=v) (vs:=vs) (by rw[<- e1];rfl) (by rw[HO,e2]) (x:=x) (λy hy=>by
    rw[<- yt]at hy;exact((hW.od k _ zx).1 y (qk.1 hy).1).q.1) (by rw[<- yt];exact hW.uo k _ zx s hs)
   rw[<- yt]at iq;have iq:xv (x7 (yU L o.id x) s)=Eh (xv (x7 L s)) x:=iq;rw[hd]at iq;have Cy:∀z,z≠s->x7 (yU L o.id x) z=x7 L z:=by
    intro z hz;show qg (jY (yU L o.id x) z)=qg (jY L z);rw[zXl,Ui λy hy e=> ?_];obtain⟨y1,y2⟩:=qk.1 hy;have:=gY HQ.2.1 y1;rw[e,hg]at this;subst this;have y2:o.side=z:=by simpa using y2
    exact hz (by rw[<- y2,wy])
   by_cases c2:sh.sum=0
   ·rw[zUi (λn=>(Ao n).1) c2,c2,Int.add_zero];exact⟨_,zx,iq,Cy⟩
   ·have e5:Eh ((pr,Q)::rest) x=(pr,Q-x)::rest:=dx oM;have BA:=iq;rw[e5]at BA;obtain⟨L1,g1,g2,g3⟩:=Zs (i:=i) hs hW zx (λy hy=>⟨HB.2 ⟨y,(ln y hy).1,dx λ(e:y.id=o.id)=>hn.1 (e▸pn (f:=(·.id)) hy)⟩,(ln y hy).2⟩) hn.2 HS Ao BA oM oM
    refine⟨L1,g1,?_,λz hz=>(g3 z hz).trans (Cy z hz)⟩;rw[g2,<- e5,yVt (by omega)]
  ·rw[dx c];have:x=0:=by omega
   subst this;rw[Int.zero_add]at sx ⊢;exact Zs hs h hL ln hn.2 HS Ao hd sx hQ
def YW {p:fj} {B:List (List zE)} (h:lu p B) {k:Nat} {L:List zE} (hL:B[k]? =ax L) {s:Int} (hs:s=1\/s=2) {q:Int} (hb:(gm L s).2=aj) (hq:1<=q/\q<=(gm L s).1.dq):
 ∃L1,(y8 B (xA p B k s q))[k]? =ax L1/\xv (x7 L1 s)=Eh (xv (x7 L s)) q/\∀z,z≠s->x7 L1 z=x7 L z:=by
 have G:=TD h hL hs hb hq;have e:=G.eq;have S:=G.sh;rw[zJ hL]at e S;have ho:=h.od k L hL;cases hl:x7 L s with
 |nil=>rw[gm,hl]at hb;cases hb
 |cons v vs=>
  have hv:(gm L s).1=v:=by rw[gm,hl]
  rw[hv]at e S hq;obtain⟨L1,g1,g2,g3⟩:=Zs (i:=k) (pr:=v.dp) (Q:=v.dq) (rest:=xv vs) (os:=qy L s v.dp) hs h hL (λo hm=>by
   obtain⟨a,b⟩:=qk.1 hm;simp only[ld,sm]at b;exact⟨a,b⟩) (ho.2.1.sublist (ba _ HC)) (by rw[S.len,iz]) S.bd (by rw[hl];rfl) (by rw[S.sum];omega) oM
  rw[e];refine⟨L1,g1,?_,g3⟩;rw[g2,S.sum];rfl
def hdQ:List (Int×Int)->Int×Int×Bool
 |[]=>(0,0,ak)
 |(p,q)::_=>(p,q,aj)
def yWw (L:List zE) (s:Int):((gm L s).1.dp,(gm L s).1.dq,(gm L s).2)=hdQ (xv (x7 L s)):=by
 rw[gm];cases x7 L s<;>rfl
def gN (B:List (List zE)) (k:Nat) (s:Int) (hs:s=1\/s=2):((B.map yS).getD k fq).has s=(gm (B.getD k []) s).2/\((B.map yS).getD k fq).dq s=(gm (B.getD k []) s).1.dq/\((B.map yS).getD k fq).dp s=(gm (B.getD k []) s).1.dp:=by
 by_cases h:k<B.length
 ·obtain⟨L,hL⟩:=z6 h;rw[KF hL,zJ hL];exact gS L hs
 ·rw[mi,mi,ue (by rw[iz];omega),ue (by omega)];rcases hs with rfl|rfl<;>exact⟨rfl,rfl,rfl⟩
def EY (inst s:Int) (n:Quote×Bool×Bool) (k:Nat) (z:Int):Prop:=if n.2.1=aj then(k=n.1.a.inst.toNat/\z=n.1.a.side)\/(k=n.1.b.inst.toNat/\z=n.1.b.side)else k=inst.toNat/\z=s
def Dec (S:Nat->Int->Prop) (x:Int) (B B':List (List zE)):Prop:=B'.length=B.length/\∀(k:Nat) (s:Int),s=1\/s=2->(S k s->xv (x7 (B'.getD k []) s)=Eh (xv (x7 (B.getD k []) s)) x)/\(¬S k s->xv (x7 (B'.getD k []) s)=xv (x7 (B.getD k []) s))
def C8 (p:fj) (B:List (List zE)) (inst:Int) (sd:Bool) (dp:Int):Bool:=(z7 p B inst (zA (!sd))).2.2 && (wA sd dp (z7 p B inst (zA (!sd))).1.dp && decide (1<=(z7 p B inst (zA (!sd))).1.dq))
def yVc {p:fj} {B:List (List zE)} {inst:Int} {sd:Bool} {dp:Int} (h:C8 p B inst sd dp=ak) (q:Int):wJ p B inst sd dp q=ay:=by
 rw[wJ];dsimp only;rw[dx];rw[C8]at h;rw[h];decide
def y0y {p:fj} {B:List (List zE)} (h:lu p B) {inst:Int} (hi:0<=inst/\inst<B.length) {sd:Bool} {dp:Int}:C8 p B inst sd dp=((z7 p B inst (zA (!sd))).2.2 && wA sd dp (z7 p B inst (zA (!sd))).1.dp):=by
 rw[C8];cases e:(z7 p B inst (zA (!sd))).2.2 with
 |false=>rfl
 |true=>
  have:=(eD h.ok h.od hi (aC (!sd)) e).1;rw[kx this.1,Bool.and_true]
def yLp {p:fj} {B:List (List zE)} (h:lu p B) {inst:Int} (hi:0<=inst/\inst<B.length) {sd:Bool} {dp:Int} (hg:C8 p B inst sd dp=aj) {q:Int} (hq:1<=q):
 ∃t B',wJ p B inst sd dp q=ax (t,B')/\t.dq=min q (z7 p B inst (zA (!sd))).1.dq/\1<=t.dq/\lu p B'/\Dec (EY inst (zA (!sd)) (z7 p B inst (zA (!sd)))) t.dq B B':=by
 have hs:zA (!sd)=1\/zA (!sd)=2:=aC _;have Lh:=hg;rw[C8]at Lh;simp only[ld,sm]at Lh;obtain⟨c1,c2,c3⟩:=Lh;obtain⟨u',h1,h2⟩:=eD h.ok h.od hi hs c1;rw[wJ];dsimp only;rw[fk (by rw[C8]at hg;exact hg)];by_cases c:(z7 p B inst (zA (!sd))).2.1=aj
 ·obtain⟨_,ok⟩:=h1 c;rw[fk c];refine⟨_,_,rfl,rfl,Z9,h.takes.takes,?_⟩;dsimp only;have P5:EY inst (zA (!sd)) (z7 p B inst (zA (!sd)))=λk z=>(k=(z7 p B inst (zA (!sd))).1.a.inst.toNat/\z=(z7 p B inst (zA (!sd))).1.a.side)\/(k=(z7 p B inst (zA (!sd))).1.b.inst.toNat/\z=(z7 p B inst (zA (!sd))).1.b.side):=by
   funext k z;rw[EY,fk c]
  rw[P5];generalize (z7 p B inst (zA (!sd))).1=n at*;obtain⟨np,nq,⟨ai,az⟩,⟨bi,bs⟩⟩:=n;have a:=ok.a;have b:=ok.b;have ne:=ok.ne;rw[iz]at a b;dsimp only at a b ne u' c3 ⊢;obtain⟨ka,rfl⟩:∃k:Nat,ai=k:=⟨ai.toNat,oM⟩
  obtain⟨kb,rfl⟩:∃k:Nat,bi=k:=⟨bi.toNat,oM⟩
  have vc:ka≠kb:=λe=>ne (by rw[e])
  obtain⟨La,DZ⟩:=z6 (l:=B) (i:=ka) oM;obtain⟨Lb,Hc⟩:=z6 (l:=B) (i:=kb) oM;have e1:=ok.ha;have e2:=ok.hb;have e3:=ok.dq;have sa:az=1\/az=2:=ok.sa;have bz:bs=1\/bs=2:=ok.sb;dsimp only at e1 e2 e3;rw[ml,KF DZ]at e1 e3;rw[ml,KF Hc]at e2 e3;rw[(gS La sa).1]at e1;rw[(gS Lb bz).1]at e2;rw[(gS La sa).2.1,(gS Lb bz).2.1]at e3;have hW1:lu p (y8 B (xA p B ka az (min q nq))):=h.takes;have hl:=dH h (k:=ka) (j:=kb) vc DZ Hc az (min q nq);obtain⟨L1,g1,g2,g3⟩:=YW h DZ sa e1 (q:=min q nq) oM;obtain⟨L2,f1,f2,f3⟩:=YW hW1 hl bz e2 (q:=min q nq) oM;have NL:=dH hW1 (k:=kb) (j:=ka) (λe=>vc e.symm) hl g1 bs (min q nq);refine⟨by rw[qT,qT],λk s hs=> ?_⟩;rw[ml,ml];by_cases ca:k=ka
  ·subst ca;rw[zJ NL,zJ DZ];by_cases cs:s=az
   ·subst cs;exact⟨λ_=>g2,λx=>absurd (.inl ⟨rfl,rfl⟩) x⟩
   ·exact⟨λx=>by rcases x with x|x;exact absurd x.2 cs;exact absurd x.1 vc,λ_=>by rw[g3 s cs]⟩
  by_cases cb:k=kb
  ·subst cb;rw[zJ f1,zJ Hc];by_cases cs:s=bs
   ·subst cs;exact⟨λ_=>f2,λx=>absurd (.inr ⟨rfl,rfl⟩) x⟩
   ·exact⟨λx=>by rcases x with x|x;exact absurd x.1 ca;exact absurd x.2 cs,λ_=>by rw[f3 s cs]⟩
  refine⟨λx=>by rcases x with x|x;exact absurd x.1 ca;exact absurd x.1 cb,λ_=> ?_⟩;by_cases hk:k<B.length
  ·obtain⟨L,hL⟩:=z6 hk;have m1:=dH h (k:=ka) (j:=k) (λe=>ca e.symm) DZ hL az (min q nq);have m2:=dH hW1 (k:=kb) (j:=k) (λe=>cb e.symm) hl m1 bs (min q nq);rw[zJ hL,zJ m2]
  ·rw[mi,mi,ue (by rw[qT,qT];omega),ue (by omega)]
 ·obtain⟨d1,d2,d3⟩:=h2 (by simpa using c);rw[dx c];refine⟨_,_,rfl,rfl,Z9,h.takes,?_⟩;dsimp only;have P5:EY inst (zA (!sd)) (z7 p B inst (zA (!sd)))=λk z=>k=inst.toNat/\z=zA (!sd):=by
   funext k z;rw[EY,dx c]
  rw[P5];obtain⟨k0,rfl⟩:∃k:Nat,inst=k:=⟨inst.toNat,oM⟩
  obtain⟨L,hL⟩:=z6 (l:=B) (i:=k0) oM;rw[ml,zJ hL]at d1 d3;rw[ml];obtain⟨L1,g1,g2,g3⟩:=YW h hL hs d1 (q:=min q (z7 p B k0 (zA (!sd))).1.dq) oM;refine⟨by rw[qT],λk s yu=> ?_⟩;by_cases ca:k=k0
  ·subst ca;rw[zJ g1,zJ hL];by_cases cs:s=zA (!sd)
   ·rw[cs];exact⟨λ_=>g2,λx=>absurd ⟨rfl,rfl⟩ x⟩
   ·exact⟨λx=>absurd x.2 cs,λ_=>by rw[g3 s cs]⟩
  refine⟨λx=>absurd x.1 ca,λ_=> ?_⟩;by_cases hk:k<B.length
  ·obtain⟨M,hM⟩:=z6 hk;have m1:=dH h (k:=k0) (j:=k) (λe=>ca e.symm) hL hM (zA (!sd)) (min q (z7 p B k0 (zA (!sd))).1.dq);rw[zJ hM,zJ m1]
  ·rw[mi,mi,ue (by rw[qT];omega),ue (by omega)]
def yNc {p:fj} {B:List (List zE)} (h:lu p B) {inst:Int} (hi:0<=inst/\inst<B.length) {s:Int} (hs:s=1\/s=2) (hn:(z7 p B inst s).2.2=aj) {k:Nat} {z:Int} (hl:EY inst s (z7 p B inst s) k z):
 (gm (B.getD k []) z).2=aj/\(z7 p B inst s).1.dq<=(gm (B.getD k []) z).1.dq:=by
 obtain⟨_,h1,h2⟩:=eD h.ok h.od hi hs hn;rw[EY]at hl;split at hl
 ·rename_i c;obtain⟨_,ok⟩:=h1 c;have e1:=ok.ha;have e2:=ok.hb;have e3:=ok.dq;have a:=gN B (z7 p B inst s).1.a.inst.toNat _ ok.sa;have b:=gN B (z7 p B inst s).1.b.inst.toNat _ ok.sb;rw[a.1]at e1;rw[b.1]at e2;rw[a.2.1,b.2.1]at e3;rcases hl with⟨rfl,rfl⟩|⟨rfl,rfl⟩
  ·exact⟨e1,oM⟩
  ·exact⟨e2,oM⟩
 ·rename_i c;obtain⟨d1,d2,d3⟩:=h2 (by simpa using c);obtain⟨rfl,rfl⟩:=hl;exact⟨d1,oM⟩
def y3f {p:fj} {B:List (List zE)} {inst:Int} {sd:Bool} {dp:Int} (h:C8 p B inst sd dp=ak) (q:Int):qC p B inst sd dp q=⟨[],q,B⟩:=jS (.inr (yVc h q))
def jH (B:List (List zE)):Nat:=(B.map af).sum
def K4 (o:zE):Int×Int:=(o.side,o.dp)
def Ja (B:List (List zE)):List (List (Int×Int)):=B.map λL=>L.map K4
def Xv:∀(B:List (List zE)) (n:Nat),(su n B).length=jH B
 |[],n=>rfl
 |L::B,n=>by
  rw[su,iQ,iz,Xv B,jH,jH,iT,oR]
def yEc (id q:Int):∀(L:List zE),(yU L id q).length<=L.length/\((yU L id q).length=L.length->(yU L id q).map K4=L.map K4)
 |[]=>⟨mg _,λ_=>rfl⟩
 |o::L=>by
  obtain⟨i1,i2⟩:=yEc id q L;rw[yU]at i1 i2;rw[yU,Jn];by_cases c:o.id=id
  ·rw[fk c];by_cases d:o.dq=q
   ·rw[fk d];refine⟨Nat.le_succ_of_le i1,λe=> ?_⟩;rw[iY]at e;dsimp only at e;omega
   ·rw[dx d];refine⟨Nat.succ_le_succ i1,λe=> ?_⟩;rw[iT,iT,i2 (Nat.succ.inj e)];rfl
  ·rw[dx c];refine⟨Nat.succ_le_succ i1,λe=> ?_⟩;rw[iT,iT,i2 (Nat.succ.inj e)]
def TM:∀{B:List (List zE)} {k:Nat} {L L':List zE},B[k]? =ax L->jH (B.set k L')+L.length=jH B+L'.length
 |[],k,L,L',h=>by cases h
 |M::B,0,L,L',h=>by
  cases h;rw[KX,jH,jH,iT,iT,oR,oR];omega
 |M::B,k+1,L,L',h=>by
  have:=TM (B:=B) (k:=k) (L:=L) (L':=L') h;rw[jH,jH]at this;rw[Jl,jH,jH,iT,iT,oR,oR];omega
def T0 (B:List (List zE)) (id q:Int):jH (yZ B id q).1<=jH B/\(jH (yZ B id q).1=jH B->Ja (yZ B id q).1=Ja B):=by
 rw[yZ];split
 ·exact⟨mg _,λ_=>rfl⟩
 ·rename_i k hk;dsimp only;obtain⟨L,hL,hh⟩:=xR hk;rw[zJ hL,x4];split
  ·rw[kL hL];exact⟨mg _,λ_=>rfl⟩
  split
  ·rw[kL hL];exact⟨mg _,λ_=>rfl⟩
  dsimp only;have:=TM (L':=yU L id q) hL;obtain⟨i1,i2⟩:=yEc id q L;refine⟨oM,λe=> ?_⟩;rw[Ja,Ja,List.map_set,i2 (by omega)];exact kL (by rw[uz,hL];rfl)
def z5q:∀(fs:List uV) (B:List (List zE)),jH (y8 B fs)<=jH B/\(jH (y8 B fs)=jH B->Ja (y8 B fs)=Ja B)
 |[],B=>⟨mg _,λ_=>rfl⟩
 |f::fs,B=>by
  obtain⟨i1,i2⟩:=z5q fs (yZ B f.id f.dq).1;obtain⟨j1,j2⟩:=T0 B f.id f.dq;have e:y8 B (f::fs)=y8 (yZ B f.id f.dq).1 fs:=rfl;rw[e];exact⟨oM,λh=>(i2 oM).trans (j2 oM)⟩
def zYf:∀{F F':List zE},F.map (·.dp)=F'.map (·.dp)->(qg F).map (·.dp)=(qg F').map (·.dp)
 |[],[],_=>rfl
 |[],_::_,h=>by cases h
 |_::_,[],h=>by cases h
 |o::F,o'::F',h=>by
  rw[iT,iT,List.cons.injEq]at h;have ih:=zYf h.2;have h1:=h.1;rw[qg,qg];cases e:qg F with
  |nil=>
   rw[e]at ih;cases e':qg F' with
   |nil=>simp[h1]
   |cons v vs=>rw[e']at ih;cases ih
  |cons v vs=>
   rw[e]at ih;cases e':qg F' with
   |nil=>rw[e']at ih;cases ih
   |cons w ws=>
    rw[e',iT,iT,List.cons.injEq]at ih;dsimp only;rw[ih.1,h1];split
    ·rw[iT,iT,ih.2]
    ·rw[iT,iT,iT,iT,ih.2,ih.1]
def y3x {L L':List zE} (h:L'.map K4=L.map K4) (s:Int):(x7 L' s).length=(x7 L s).length:=by
 have e:∀L:List zE,(L.filter λo=>decide (o.side=s)).map (·.dp)=((L.map K4).filter λx=>decide (x.1=s)).map (·.2):=by
  intro L;rw[List.filter_map,xi];rfl
 have:=zYf ((e L').trans ((congrArg (λl=>(List.filter (λx:Int×Int=>decide (x.1=s)) l).map (·.2)) h).trans (e L).symm))
 have:=congrArg af this;rw[iz,iz]at this;exact this
def zPw {p:fj} {B:List (List zE)} {inst:Int} {sd:Bool} {dp q:Int} {t:kX} {B':List (List zE)} (e:wJ p B inst sd dp q=ax (t,B')):B'=y8 B t.ig:=by
 rw[wJ]at e;dsimp only at e;split at e
 ·split at e
  ·cases e;rw[zYc]
  ·cases e;rfl
 ·cases e
def z4h {p:fj} {B:List (List zE)} (h:lu p B) {inst:Int} (hi:0<=inst/\inst<B.length) {sd:Bool} {dp:Int} (hg:C8 p B inst sd dp=aj) {q:Int} (hq:1<=q):
 ∃t B',wJ p B inst sd dp q=ax (t,B')/\1<=t.dq/\t.dq<=q/\lu p B'/\B'.length=B.length/\jH B'<=jH B/\(t.dq<q->jH B'<jH B):=by
 obtain⟨t,B',a1,a2,a3,a4,a5⟩:=yLp h hi hg hq;have Lh:=hg;rw[C8]at Lh;simp only[ld,sm]at Lh;obtain⟨c1,_,c3⟩:=Lh;have AH:=z5q t.ig B;rw[<- zPw a1]at AH;refine⟨t,B',a1,a3,oM,a4,a5.1,AH.1,λiq=> ?_⟩;rcases vx (jH B') (jH B)with x|x
 ·exact x
 exfalso;have Ju:=AH.2 oM;have hs:=aC (!sd);obtain⟨_,p1,p2⟩:=eD h.ok h.od hi hs c1;obtain⟨k,z,hz,hl,he⟩:∃(k:Nat) (z:Int),(z=1\/z=2)/\EY inst (zA (!sd)) (z7 p B inst (zA (!sd))) k z/\(gm (B.getD k []) z).1.dq=(z7 p B inst (zA (!sd))).1.dq:=by
  cases c:(z7 p B inst (zA (!sd))).2.1 with
  |true=>
   obtain⟨_,ok⟩:=p1 c;have q0:=ok.dq;rw[(gN B _ _ ok.sa).2.1,(gN B _ _ ok.sb).2.1]at q0;rcases Int.le_total (gm (B.getD (z7 p B inst (zA (!sd))).1.a.inst.toNat []) (z7 p B inst (zA (!sd))).1.a.side).1.dq (gm (B.getD (z7 p B inst (zA (!sd))).1.b.inst.toNat []) (z7 p B inst (zA (!sd))).1.b.side).1.dq with y|y
   ·exact⟨_,_,ok.sa,by rw[EY,fk c];exact .inl ⟨rfl,rfl⟩,oM⟩
   ·exact⟨_,_,ok.sb,by rw[EY,fk c];exact .inr ⟨rfl,rfl⟩,oM⟩
  |false=>
   obtain⟨d1,d2,d3⟩:=p2 c;exact⟨inst.toNat,_,hs,by rw[EY,dx (by rw[c];decide)];exact⟨rfl,rfl⟩,d3.symm⟩
 have hb:=yNc h hi hs c1 hl;have hd:=(a5.2 k z hz).1 hl;have hlen:(xv (x7 (B'.getD k []) z)).length=(xv (x7 (B.getD k []) z)).length:=by
  rw[xv,xv,iz,iz];refine y3x ?_ z;have:=congrArg (λl=>l.getD k []) Ju;have ge:∀B:List (List zE),(Ja B).getD k []=(B.getD k []).map K4:=by
   intro B;rw[Ja,mi,mi,uz];cases B[k]? <;>rfl
  rw[ge,ge]at this;exact this
 have bh:=yWw (B.getD k []) z;rw[hd]at hlen;cases el:xv (x7 (B.getD k []) z)with
 |nil=>rw[el]at bh;simp only[hdQ,Prod.mk.injEq]at bh;rw[bh.2.2]at hb;cases hb.1
 |cons v vs=>
  obtain⟨pr,Q⟩:=v;rw[el]at bh hlen;simp only[hdQ,Prod.mk.injEq]at bh;have e2:Eh ((pr,Q)::vs) t.dq=vs:=fk oM;rw[e2,iY]at hlen;omega
def yBn {p:fj} {inst:Int} {sd:Bool} {dp:Int}:∀(m:Nat) (q:Int) (B:List (List zE)),q.toNat<=m->lu p B->0<=inst/\inst<B.length->
 (qC p B inst sd dp q).steps.length+jH (qC p B inst sd dp q).B<=jH B+1/\(q<=0->(qC p B inst sd dp q).steps=[])/\((qC p B inst sd dp q).steps.map (·.dq)).sum=q-(qC p B inst sd dp q).left/\jH (qC p B inst sd dp q).B<=jH B
 |m,q,B,hm,h,hi=>by
  by_cases hq:q<=0
  ·rw[jS (.inl hq)];exact⟨by dsimp only[List.length_nil];omega,λ_=>rfl,by simp,mg _⟩
  cases hg:C8 p B inst sd dp with
  |false=>
   rw[y3f hg];exact⟨by dsimp only[List.length_nil];omega,λ_=>rfl,by simp,mg _⟩
  |true=>
   obtain⟨t,C,a1,a3,a3',a4,a5,a6,a7⟩:=z4h h hi hg (q:=q) oM;cases m with
   |zero=>omega
   |succ m=>
   obtain⟨i1,i2,i3,i4⟩:=yBn (p:=p) (inst:=inst) (sd:=sd) (dp:=dp) m (q-t.dq) C oM a4 (by rw[a5];exact hi);rw[aP (by omega) a1];refine⟨?_,λx=>absurd x hq,?_,Z9⟩
   ·dsimp only;rw[iY];by_cases c:t.dq<q
    ·have:=a7 c;omega
    ·rw[i2 (by omega)];rw[Al];omega
   ·dsimp only;rw[iT,oR,i3];omega
def yCw (x:Int):∀(r:List Quote) (q:Quote),((r.foldl (λb q=>if jj 2 q.dp b.dp then q else b) q).dp<=x↔∃y∈q::r,y.dp<=x)
 |[],q=>by simp
 |y::r,q=>by
  rw[DN,yCw x r];simp only[jj,show ¬((2:Int)=1)by decide,if_false,sm,ku,exists_eq_or_imp];by_cases h:y.dp<q.dp
  ·simp only[fk h];constructor
   ·rintro(a|a)
    ·exact .inr (.inl a)
    ·exact .inr (.inr a)
   ·rintro(a|a|a)
    ·exact .inl oM
    ·exact .inl a
    ·exact .inr a
  ·simp only[dx h];constructor
   ·rintro(a|a)
    ·exact .inl a
    ·exact .inr (.inr a)
   ·rintro(a|a|a)
    ·exact .inl a
    ·exact .inl oM
    ·exact .inr a
def yCi (x:Int):∀(r:List Quote) (q:Quote),(x<=(r.foldl (λb q=>if jj 1 q.dp b.dp then q else b) q).dp↔∃y∈q::r,x<=y.dp)
 |[],q=>by simp
 |y::r,q=>by
  rw[DN,yCi x r];simp only[jj,if_true,sm,ku,exists_eq_or_imp];by_cases h:q.dp<y.dp
  ·simp only[fk h];constructor
   ·rintro(a|a)
    ·exact .inr (.inl a)
    ·exact .inr (.inr a)
   ·rintro(a|a|a)
    ·exact .inl oM
    ·exact .inl a
    ·exact .inr a
  ·simp only[dx h];constructor
   ·rintro(a|a)
    ·exact .inl a
    ·exact .inr (.inr a)
   ·rintro(a|a|a)
    ·exact .inl a
    ·exact .inl oM
    ·exact .inr a
def yNb (l:List Quote) (x:Int):((zN l 2).2=aj/\(zN l 2).1.dp<=x)↔∃y∈l,y.dp<=x:=by
 cases l with
 |nil=>simp[zN]
 |cons q r=>rw[<- yCw x r q];simp[zN]
def yNz (l:List Quote) (x:Int):((zN l 1).2=aj/\x<=(zN l 1).1.dp)↔∃y∈l,x<=y.dp:=by
 cases l with
 |nil=>simp[zN]
 |cons q r=>rw[<- yCi x r q];simp[zN]
def PS (p:fj) (T:List iS) (n:Nat) (s:Int) (v:Int):Prop:=∃q∈qM ⟨p,T,n⟩ s,q.dp=v
def hJ (p:fj) (T:List iS) (n:Nat):uN p T n=aj↔
 (∃v,PS p T n 2 v/\p.dp n v=0/\(T.getD n fq).gp=aj/\v<=(T.getD n fq).p1)\/
 (∃v,PS p T n 1 v/\p.dp n v=0/\(T.getD n fq).gj=aj/\(T.getD n fq).p2<=v):=by
 have h1:=yNb (yC ⟨p,T,n⟩ 2) (T.getD n fq).p1;have h2:=yNz (yC ⟨p,T,n⟩ 1) (T.getD n fq).p2;have m:∀s (y:Quote),y∈yC ⟨p,T,n⟩ s↔y∈qM ⟨p,T,n⟩ s/\p.dp n y.dp=0:=by
  intro s y;simp[yC,qk]
 simp only[uN,oX,E9,ld,sm];constructor
 ·rintro(⟨⟨a,b⟩,c⟩|⟨⟨a,b⟩,c⟩)
  ·obtain⟨y,hy,hv⟩:=h1.1 ⟨b,c⟩;exact .inl ⟨_,⟨y,((m _ _).1 hy).1,rfl⟩,((m _ _).1 hy).2,a,hv⟩
  ·obtain⟨y,hy,hv⟩:=h2.1 ⟨b,c⟩;exact .inr ⟨_,⟨y,((m _ _).1 hy).1,rfl⟩,((m _ _).1 hy).2,a,hv⟩
 ·rintro(⟨v,⟨y,hy,rfl⟩,hp,a,hv⟩|⟨v,⟨y,hy,rfl⟩,hp,a,hv⟩)
  ·obtain⟨b,c⟩:=h1.2 ⟨y,(m _ _).2 ⟨hy,hp⟩,hv⟩;exact .inl ⟨⟨a,b⟩,c⟩
  ·obtain⟨b,c⟩:=h2.2 ⟨y,(m _ _).2 ⟨hy,hp⟩,hv⟩;exact .inr ⟨⟨a,b⟩,c⟩
@[reducible] def aX (T:List iS):Prop:=∀k s,-2000000<=(T.getD k fq).dp s/\(T.getD k fq).dp s<=2000000
def ySr {x y:Int} (hx: -2000000<=x/\x<=2000000) (hy: -2000000<=y/\y<=2000000):g7 x y=(x-y,aj):=by
 have:ie (x-y):=⟨oM,oM⟩
 rw[g7,fk this]
def yWe {x y:Int} (hx: -2000000<=x/\x<=2000000) (hy: -2000000<=y/\y<=2000000):gX x y=(x+y,aj):=by
 have:ie (x+y):=⟨oM,oM⟩
 rw[gX,fk this]
@[reducible] def mkV (T:List iS) (a b:AK) (less:Bool):Int:=if less=aj then(T.getD b.inst.toNat fq).dp b.side-(T.getD a.inst.toNat fq).dp a.side else(T.getD a.inst.toNat fq).dp a.side+(T.getD b.inst.toNat fq).dp b.side
def yLz {T:List iS} (h:aX T) (a b:AK) (less:Bool):wb T a b less=if((T.getD a.inst.toNat fq).has a.side && (T.getD b.inst.toNat fq).has b.side)=aj then[⟨mkV T a b less,min ((T.getD a.inst.toNat fq).dq a.side) ((T.getD b.inst.toNat fq).dq b.side),a,b⟩]else[]:=by
 have h1:=h a.inst.toNat a.side;have h2:=h b.inst.toNat b.side;cases less with
 |true=>simp only[wb,ySr h2 h1,if_true,Bool.and_true];rfl
 |false=>simp only[wb,yWe h1 h2,nr,if_false,Bool.and_true];rfl
def z1k {T:List iS} (h:aX T) (a b:AK) (less:Bool) (q:Quote):q∈wb T a b less->(T.getD a.inst.toNat fq).has a.side=aj/\(T.getD b.inst.toNat fq).has b.side=aj/\q.dp=mkV T a b less:=by
 rw[yLz h];intro hq;cases c:((T.getD a.inst.toNat fq).has a.side && (T.getD b.inst.toNat fq).has b.side)with
 |true=>
  rw[fk c]at hq;rw[ld]at c;rw[xj.1 hq];exact⟨c.1,c.2,rfl⟩
 |false=>rw[dx (by rw[c];decide)]at hq;cases hq
def z0j {T:List iS} (h:aX T) (a b:AK) (less:Bool) (ha:(T.getD a.inst.toNat fq).has a.side=aj) (hb:(T.getD b.inst.toNat fq).has b.side=aj):∃q∈wb T a b less,q.dp=mkV T a b less:=by
 rw[yLz h,fk (by rw[ha,hb];rfl)];exact⟨_,xj.2 rfl,rfl⟩
def yWb:∀n≤6,∀k<n+n*(n-1) / 2,n<=k->∃a<n,∃b<n,a<b/\(yJ n a:Int)+b-a-1=k:=by decide
def zXx {p:fj} (hc:p.check=0) {a b:Nat} (vc:a<b) (hb:b<p.dr.length):(p.spread a b).1=(yJ p.dr.length a:Int)+b-a-1:=by
 rw[fj.spread,dx (by omega)];simp
structure Hf (p:fj) (a b k:Nat):Prop where
 vc:a<b
 hb:b<p.dr.length
 hs:(p.spread a b).1=k
 hk:k<p.count
 hm:p.dr.length<=k
 hl:p.gf k=((a:Int),(b:Int),aj)
def Tz {p:fj} (hc:p.check=0) {a b:Nat} (vc:a<b) (hb:b<p.dr.length):∃k,Hf p a b k:=by
 have m6:=(qF hc).m6;have e:=zXx hc vc hb;have l:=yDa hc (a:=a) (b:=b-a-1) oM oM;have lf:=z5r p.dr.length m6 a oM (b-a-1) oM;refine⟨yJ p.dr.length a+(b-a-1),vc,hb,by rw[e];omega,by rw[dA hc];exact lf.2.1,lf.2.2,?_⟩;rw[l,show a+1+(b-a-1)=b by omega]
def VX {p:fj} (hc:p.check=0) {k:Nat} (hk:k<p.count) (hm:p.dr.length<=k):∃a b,Hf p a b k:=by
 have m6:=(qF hc).m6;obtain⟨a,ha,b,hb,vc,e⟩:=yWb p.dr.length m6 k (by rw[<- dA hc];exact hk) hm;obtain⟨k',t⟩:=Tz hc vc hb;have:k'=k:=by have:=t.hs;rw[zXx hc vc hb,e]at this;omega
 exact⟨a,b,this▸t⟩
def IT {p:fj} (hc:p.check=0) {T:List iS} (h:aX T) (hT:T.length=p.count) {a b k:Nat} (t:Hf p a b k) {s:Int} {v:Int}:
 PS p T k s v↔(T.getD a fq).has s=aj/\(T.getD b fq).has (3-s)=aj/\v=(T.getD a fq).dp s-(T.getD b fq).dp (3-s):=by
 have hk:=t.hk;have e:qM ⟨p,T,k⟩ s=(yO ⟨p,T,k⟩ s).map (cX ⟨p,T,k⟩ s):=by
  rw[qM,dx (by dsimp only;omega),fk (by dsimp only;rw[t.hl])]
 have e2:yO ⟨p,T,k⟩ s=wb T ⟨b,3-s⟩ ⟨a,s⟩ aj:=by
  rw[yO];dsimp only;rw[t.hl]
 rw[PS,e,e2];constructor
 ·rintro⟨q,hq,rfl⟩;obtain⟨q',Le,rfl⟩:=oe.1 hq;obtain⟨m1,m2,m3⟩:=z1k h _ _ _ _ Le;exact⟨m2,m1,m3⟩
 ·rintro⟨h1,h2,rfl⟩;obtain⟨q,hq,hp⟩:=z0j h ⟨b,3-s⟩ ⟨a,s⟩ aj h2 h1;exact⟨_,oe.2 ⟨q,hq,rfl⟩,hp⟩
def aU {p:fj} (hc:p.check=0) {T:List iS} (h:aX T) (hT:T.length=p.count) {n:Nat} (hn:n<p.dr.length) {s:Int} {v:Int}:
 PS p T n s v↔(∃b k,Hf p n b k/\(T.getD k fq).has s=aj/\(T.getD b fq).has s=aj/\v=(T.getD k fq).dp s+(T.getD b fq).dp s)\/
  (∃a k,Hf p a n k/\(T.getD k fq).has (3-s)=aj/\(T.getD a fq).has s=aj/\v=(T.getD a fq).dp s-(T.getD k fq).dp (3-s)):=by
 have hcg:=aH hc;have Fp:(p.gf n).2.2=ak:=by rw[zNy hc (by omega) (by omega)];exact jq oM
 have e:qM ⟨p,T,n⟩ s=kP ⟨p,T,n⟩ s (p.dr.length-(n+1))++kY ⟨p,T,n⟩ s n:=by
  rw[qM,dx (by dsimp only;omega),dx (by dsimp only;rw[Fp];decide)];simp
 rw[PS,e];have cast:∀j:Nat,(n:Int)+1+j=((n+1+j:Nat):Int):=λj=>by omega
 constructor
 ·rintro⟨q,hq,rfl⟩;rcases qq.1 hq with hq|hq
  ·left;simp only[kP,yg,zh]at hq;obtain⟨j,hj,hq⟩:=hq;obtain⟨k,t⟩:=Tz hc (a:=n) (b:=n+1+j) oM oM;rw[cast,t.hs]at hq;obtain⟨m1,m2,m3⟩:=z1k h _ _ _ _ hq;exact⟨_,_,t,m1,m2,m3⟩
  ·right;simp only[kY,yg,zh]at hq;obtain⟨j,hj,hq⟩:=hq;obtain⟨k,t⟩:=Tz hc (a:=j) (b:=n) hj hn;rw[t.hs]at hq;obtain⟨m1,m2,m3⟩:=z1k h _ _ _ _ hq;exact⟨_,_,t,m1,m2,m3⟩
 ·rintro(⟨b,k,t,h1,h2,rfl⟩|⟨a,k,t,h1,h2,rfl⟩)
  ·obtain⟨q,hq,hp⟩:=z0j h ⟨k,s⟩ ⟨b,s⟩ ak h1 h2;have vc:=t.vc;have hb:=t.hb;refine⟨q,yo _ ?_,hp⟩;simp only[kP,yg,zh];refine⟨b-(n+1),oM,?_⟩;rw[cast,show n+1+(b-(n+1))=b by omega,t.hs];exact hq
  ·obtain⟨q,hq,hp⟩:=z0j h ⟨k,3-s⟩ ⟨a,s⟩ aj h1 h2;refine⟨q,zp _ ?_,hp⟩;simp only[kY,yg,zh];refine⟨a,t.vc,?_⟩;rw[t.hs];exact hq
def f7 {p:fj} {T:List iS} {a b k:Nat} (t:Hf p a b k):KC p T k=aj↔
 ((T.getD a fq).gp=aj/\(T.getD b fq).gj=aj/\(T.getD k fq).gj=aj/\(T.getD k fq).p2<=(T.getD a fq).p1-(T.getD b fq).p2/\
   (p.dp k ((T.getD a fq).p1-(T.getD b fq).p2)=0\/p.dp a ((T.getD k fq).p2+(T.getD b fq).p2)=0\/p.dp b ((T.getD a fq).p1-(T.getD k fq).p2)=0))\/
 ((T.getD a fq).gj=aj/\(T.getD b fq).gp=aj/\(T.getD k fq).gp=aj/\(T.getD a fq).p2-(T.getD b fq).p1<=(T.getD k fq).p1/\
   (p.dp k ((T.getD a fq).p2-(T.getD b fq).p1)=0\/p.dp a ((T.getD k fq).p1+(T.getD b fq).p1)=0\/p.dp b ((T.getD a fq).p2-(T.getD k fq).p1)=0)):=by
 simp only[KC,yAk,t.hl,iS.hs,iS.pr,ml,qj,E9,ld,sm,ge_iff_le,if_true,show ¬((1:Nat)=0)by decide,if_false,and_assoc,or_assoc,Nat.sub_zero,Hx]
def V1 (t:iS):t.has 1=t.gp:=rfl
def yNh (t:iS):t.has 2=t.gj:=rfl
def uR (t:iS):t.dp 1=t.p1:=rfl
def fB (t:iS):t.dp 2=t.p2:=rfl
def yGu {p:fj} (hc:p.check=0) {T:List iS} (h:aX T) (hT:T.length=p.count):(∃n,n<T.length/\uN p T n=aj)↔∃k,k<T.length/\KC p T k=aj:=by
 constructor
 ·rintro⟨n,hn,hm⟩;rw[hT]at hn;rw[hJ]at hm;by_cases hs:p.dr.length<=n
  ·obtain⟨a,b,t⟩:=VX hc hn hs;refine⟨n,oM,(f7 t).2 ?_⟩;rcases hm with⟨v,hv,hp,h1,h2⟩|⟨v,hv,hp,h1,h2⟩
   ·obtain⟨q1,q2,rfl⟩:=(IT hc h hT t).1 hv;exact .inr ⟨q1,q2,h1,h2,.inl hp⟩
   ·obtain⟨q1,q2,rfl⟩:=(IT hc h hT t).1 hv;exact .inl ⟨q1,q2,h1,h2,.inl hp⟩
  ·rcases hm with⟨v,hv,hp,h1,h2⟩|⟨v,hv,hp,h1,h2⟩
   ·rcases(aU hc h hT oM).1 hv with⟨b,k,t,q1,q2,rfl⟩|⟨a,k,t,q1,q2,rfl⟩
    ·simp only[yNh,fB]at q1 q2 h2 hp;exact⟨k,by rw[hT];exact t.hk,(f7 t).2 (.inl ⟨h1,q2,q1,oM,.inr (.inl hp)⟩)⟩
    ·simp only[yNh,fB,show(3:Int)-2=1 by decide,V1,uR]at q1 q2 h2 hp;exact⟨k,by rw[hT];exact t.hk,(f7 t).2 (.inr ⟨q2,h1,q1,oM,.inr (.inr hp)⟩)⟩
   ·rcases(aU hc h hT oM).1 hv with⟨b,k,t,q1,q2,rfl⟩|⟨a,k,t,q1,q2,rfl⟩
    ·simp only[V1,uR]at q1 q2 h2 hp;exact⟨k,by rw[hT];exact t.hk,(f7 t).2 (.inr ⟨h1,q2,q1,oM,.inr (.inl hp)⟩)⟩
    ·simp only[yNh,fB,show(3:Int)-1=2 by decide,V1,uR]at q1 q2 h2 hp;exact⟨k,by rw[hT];exact t.hk,(f7 t).2 (.inl ⟨q2,h1,q1,oM,.inr (.inr hp)⟩)⟩
 ·rintro⟨k,hk,hm⟩;rw[hT]at hk;have hcg:=aH hc;by_cases hs:p.dr.length<=k
  ·obtain⟨a,b,t⟩:=VX hc hk hs;have vc:=t.vc;have hb:=t.hb;rcases(f7 t).1 hm with⟨h1,h2,h3,h4,g|g|g⟩|⟨h1,h2,h3,h4,g|g|g⟩
   ·exact⟨k,oM,(hJ p T k).2 (.inr ⟨_,(IT hc h hT t).2 ⟨h1,h2,rfl⟩,g,h3,h4⟩)⟩
   ·exact⟨a,oM,(hJ p T a).2 (.inl ⟨_,(aU hc h hT oM).2 (.inl ⟨b,k,t,h3,h2,rfl⟩),g,h1,by rw[fB,fB];omega⟩)⟩
   ·exact⟨b,oM,(hJ p T b).2 (.inr ⟨_,(aU hc h hT oM).2 (.inr ⟨a,k,t,h3,h1,rfl⟩),g,h2,by show _<=(T.getD a fq).p1-(T.getD k fq).p2;omega⟩)⟩
   ·exact⟨k,oM,(hJ p T k).2 (.inl ⟨_,(IT hc h hT t).2 ⟨h1,h2,rfl⟩,g,h3,h4⟩)⟩
   ·exact⟨a,oM,(hJ p T a).2 (.inr ⟨_,(aU hc h hT oM).2 (.inl ⟨b,k,t,h3,h2,rfl⟩),g,h1,by rw[uR,uR];omega⟩)⟩
   ·exact⟨b,oM,(hJ p T b).2 (.inl ⟨_,(aU hc h hT oM).2 (.inr ⟨a,k,t,h3,h1,rfl⟩),g,h2,by show(T.getD a fq).p2-(T.getD k fq).p1<=_;omega⟩)⟩
  ·exfalso;have Fp:(p.gf k).2.2=ak:=by rw[zNy hc (by omega) (by omega)];exact jq oM
   rw[KC,Fp]at hm;cases hm
def yk {n:Nat} {f:Nat->Bool}:(ae n).any f=aj↔∃k,k<n/\f k=aj:=by
 simp[Nj,zh]
def z1s {p:fj} (hc:p.check=0) {T:List iS} (h:aX T) (hT:T.length=p.count):
 kE p T=if(ae T.length).any (TW T)=aj then 23 else if(ae T.length).any (KC p T)=aj then 21 else 0:=by
 have e1:(λn=>aT (T.getD n fq))=TW T:=by
  funext n;rw[aT,oX,TW,Bool.and_assoc]
 have e2:(ae T.length).any (uN p T)=(ae T.length).any (KC p T):=by
  rw[Bool.eq_iff_iff,yk,yk];exact yGu hc h hT
 rw[kE,dx (by simp[hc]),e1,e2]
end Sx
