/- Texts of ours. No condition. -/
import Derived.Test.YtgmmlhddihaocaaGreatH12
set_option linter.all false
open List renaming map->aa,take->ab,drop->ac,length->ae
open Sx.fw renaming cells->af,kh->ag,own->aj
open Bool renaming false->ak,true->am
open Int renaming toNat->ao
open Go.IntKind renaming i64->ap,u8->aq
open Option renaming some->ar
namespace Sx
set_option maxRecDepth 100000
open Go Cv Go.Proofs
def Zu (a:Nat) (b:Nat) (c:yy) (d:Nat->Prop) (e:Nat->Nat):Prop:=(↑a:Int)=ap.wrap ((↑b:Int)+1)/\dm ((zN c.l c.s).fst.dp)/\dm ((zN c.l c.s).fst.dq)/\dm ((zN c.l c.s).fst.a.inst)/\dm ((zN c.l c.s).fst.a.side)/\dm ((zN c.l c.s).fst.b.inst)/\dm ((zN c.l c.s).fst.b.side)/\d a/\e a<e b/\True
def kJ (a:Nat) (b:yy):=(cV (ab a b.l) (zN b.l b.s).fst)
def yYk (i:yy):Prop:=
 ∃(a:yy),aa zK a.l=aa zK i.l/\a.s=i.s/\(wP a)/\fp (du (!(zN a.l a.s).snd) (ez ((qV i.l i.s).fst.dp=0/\(qV i.l i.s).fst.dq=0/\(qV i.l i.s).fst.count=0/\(qV i.l i.s).snd=ak/\True)) (∃(c:Nat),(kJ c i).fst=(zN a.l a.s).fst.dq/\(kJ c i).snd=0/\(↑c:Int)=0/\(zN i.l i.s).fst.dp=(zN a.l a.s).fst.dp/\(zN i.l i.s).fst.dq=(zN a.l a.s).fst.dq/\(zN i.l i.s).fst.a.inst=(zN a.l a.s).fst.a.inst/\(zN i.l i.s).fst.a.side=(zN a.l a.s).fst.a.side/\(zN i.l i.s).fst.b.inst=(zN a.l a.s).fst.b.inst/\(zN i.l i.s).fst.b.side=(zN a.l a.s).fst.b.side/\∃(d:Nat->Prop),∃(e:Nat->Nat),d c/\∀(f:Nat),d f->du (decide ((↑f:Int)<(gB i))) ((0<=(↑f:Int)/\(↑f:Int)<(gB i))/\∃(g:Int),∃(h:Int),∃(j:Int),∃(k:Int),∃(l:Int),∃(m:Int),zF (aa zK i.l) (↑f:Int).toNat 0 6=ar [dI g,dI h,dI j,dI k,dI l,dI m]/\du (g==(zN i.l i.s).fst.dp) (∃(n:Nat),((kJ n i).fst=if h>(kJ f i).fst then h else(kJ f i).fst)/\(kJ n i).snd=ap.wrap ((kJ f i).snd+1)/\Zu n f i d e) (∃(n:Nat),(kJ n i).fst=(kJ f i).fst/\(kJ n i).snd=(kJ f i).snd/\Zu n f i d e)) (ez ((qV i.l i.s).fst.dp=(zN i.l i.s).fst.dp/\(qV i.l i.s).fst.dq=(kJ f i).fst/\(qV i.l i.s).fst.count=(kJ f i).snd/\(qV i.l i.s).snd=am/\True))))
def yQg (i:Ib):Prop:=
 True/\((aa xW i.d.out).length+1)*(56:Nat)<=(140737488355328:Nat)/\ez (i.d.seq+(↑(1:Nat):Int)=ap.wrap (i.d.seq+1)/\aa xW (i.d.out++vJ i.d.seq [i.m])=aa xW i.d.out++[[dI (ap.wrap (i.d.seq+1)),dI (↑i.m.inst:Int),dI i.m.side,dI i.m.l.dp,dI i.m.l.dq,dI i.m.l.count,D.v (.bool i.m.imp)]]/\True)
def jQ (a:AL) (b:xo):=(a.d.out++vJ a.d.seq b.M)
def sD (a:AL):Prop:=af [V.own 4,V.d (dI a.b.imp.dp),V.d (dI a.b.imp.dq),V.d (dI a.b.imp.count),V.d (D.v (.bool a.b.has))] 179=af [V.own 4,V.d (dI a.b.imp.dp),V.d (dI a.b.imp.dq),V.d (dI a.b.imp.count),V.d (D.v (.bool a.b.has))] 179/\dm (ag 3 (aa my a.b.levels))/\dm (af [V.own 2,V.d (dI a.a.imp.dp),V.d (dI a.a.imp.dq),V.d (dI a.a.imp.count),V.d (D.v (.bool a.a.has))] 179)/\dm (ag 3 (aa my a.a.levels))
def ZG (a:AL) (b:xo):Prop:=af [V.d (dI (a.d.seq+(↑b.M.length:Int))),V.own 7] (266:TypeId)=af [V.d (dI (a.d.seq+(↑b.M.length:Int))),V.own 7] (266:TypeId)/\dm (aj Pb 7 (aa xW (jQ a b)))/\sD a
def sJ (a:Bool->Prop) (b:Bool) (c:AL) (d:xo):Prop:=a b/\ZG c d
def ZW (a:AL) (b:Int) (c:Int) (d:Bool->Prop) (e:xo):Prop:=∃(f:I3),f.side=a.s/\f.x=b/\f.y=c/\True/\fp (∃(h:Bool),h=tU f.side f.x f.y/\sJ d h a e)
def UH (a:Bool->Prop) (b:AL) (c:xo):Prop:=∃(d:Bool),d=am/\sJ a d b c
def Y9 (a:Lv->Prop) (b:Lv) (c:AL) (d:xo):Prop:=a b/\ZG c d
def Zy (a:xo->Prop) (b:xo) (c:xo->Nat) (d:xo) (e:AL):Prop:=a b/\c b<c d/\sD e
def YV (a:AL) (b:xo) (c:Ib) (d:xo->Prop) (e:xo->Nat) (f:xo):Prop:=a.d.seq+(↑b.M.length:Int)=c.d.seq+(↑(1:Nat):Int)/\aa xW (jQ a b)=aa xW (c.d.out++vJ c.d.seq [c.m])/\Zy d b e f a
def YK (a:uj->Prop) (b:uj) (c:AL):Prop:=a b/\sD c
def nM (a:Ib):Prop:=(-4611686018427387904)<=a.d.seq/\a.d.seq+(↑(1:Nat):Int)<=4611686018427387904/\a.d.out.length+(1:Nat)<=(1000000000:Nat)
def bC (a:xo):=(↑(aa my a.y).length:Int)
def b7 (a:xo):Prop:=(0:Int)<=(0:Int)/\0<(bC a)
def fY (a:xo):=(↑(aa my a.x).length:Int)
def mW (a:xo):Prop:=(0:Int)<=(0:Int)/\0<(fY a)
def bS (a:AL):=(a.d.out++vJ a.d.seq (wU a.n a.s a.a a.b))
def bW (a:AL):=(↑(wU a.n a.s a.a a.b).length:Int)
def yQt (i:AL):Prop:=
 ∃(a:xo),aa my a.x=aa my i.a.levels/\aa my a.y=aa my i.b.levels/\i.d.seq+(↑a.M.length:Int)=i.d.seq/\aa xW (jQ i a)=aa xW i.d.out/\∃(b:xo->Prop),∃(c:xo->Nat),b a/\∀(d:xo),b d->du (decide (ap.wrap ((fY d)+(bC d))>0)) (∃(e:Bool),∃(f:Bool->Prop),du ((bC d)==0) (UH f i d) (du (decide ((fY d)>0)) ((mW d)/\∃(g:Int),zF (aa my d.x) (ao 0) 0 1=ar [dI g]/\(b7 d)/\∃(h:Int),zF (aa my d.y) (ao 0) 0 1=ar [dI h]/\ZW i g h f d) (∃(g:Bool),g=ak/\sJ f g i d))/\∀(g:Bool),f g->du g ((mW d)/\∃(h:Int),zF (aa my d.x) (ao 0) 0 1=ar [dI h]/\∃(j:Ib),(↑j.m.inst:Int)=(↑i.n:Int)/\j.m.side=i.s/\j.m.l.dp=h/\j.m.l.dq=0/\j.m.l.count=0/\j.m.imp=ak/\j.d.seq=i.d.seq+(↑d.M.length:Int)/\aa xW j.d.out=aa xW (jQ i d)/\(nM j)/\fp (((0:Int)<=(1:Int)/\1<=(fY d))/\∃(l:xo),aa my l.x=ac (ao 1) (aa my d.x)/\aa my l.y=aa my d.y/\YV i l j b c d)) (∃(h:Bool),∃(j:Bool->Prop),du ((fY d)==0) (UH j i d) ((b7 d)/\∃(k:Int),zF (aa my d.y) (ao 0) 0 1=ar [dI k]/\(mW d)/\∃(l:Int),zF (aa my d.x) (ao 0) 0 1=ar [dI l]/\ZW i k l j d)/\∀(k:Bool),j k->du k ((b7 d)/\∃(l:Int),∃(m:Int),∃(n:Int),zF (aa my d.y) (ao 0) 0 3=ar [dI l,dI m,dI n]/\∃(p:Ib),(↑p.m.inst:Int)=(↑i.n:Int)/\p.m.side=i.s/\p.m.l.dp=l/\p.m.l.dq=m/\p.m.l.count=n/\p.m.imp=ak/\p.d.seq=i.d.seq+(↑d.M.length:Int)/\aa xW p.d.out=aa xW (jQ i d)/\(nM p)/\fp (((0:Int)<=(1:Int)/\1<=(bC d))/\∃(r:xo),aa my r.x=aa my d.x/\aa my r.y=ac (ao 1) (aa my d.y)/\YV i r p b c d)) (∃(l:uj),l.seq=i.d.seq+(↑d.M.length:Int)/\aa xW l.out=aa xW (jQ i d)/\∃(m:uj->Prop),(∃(n:Bool),∃(p:Bool->Prop),((mW d)/\∃(q:Int),∃(r:Int),∃(s:Int),zF (aa my d.x) (ao 0) 0 3=ar [dI q,dI r,dI s]/\(b7 d)/\∃(t:Int),∃(u:Int),∃(v:Int),zF (aa my d.y) (ao 0) 0 3=ar [dI t,dI u,dI v]/\∃(w:Bool),w=!(q==t && (r==u && (s==v && am)))/\p w/\dm (af [V.d (dI l.seq),V.own 9] (266:TypeId))/\dm (aj Pb 7 (aa xW l.out))/\sD i)/\∀(q:Bool),p q->du q ((b7 d)/\∃(r:Int),∃(s:Int),∃(t:Int),zF (aa my d.y) (ao 0) 0 3=ar [dI r,dI s,dI t]/\∃(u:Ib),(↑u.m.inst:Int)=(↑i.n:Int)/\u.m.side=i.s/\u.m.l.dp=r/\u.m.l.dq=s/\u.m.l.count=t/\u.m.imp=ak/\u.d.seq=l.seq/\aa xW u.d.out=aa xW l.out/\(nM u)/\fp (∃(w:uj),w.seq=u.d.seq+(↑(1:Nat):Int)/\aa xW w.out=aa xW (u.d.out++vJ u.d.seq [u.m])/\YK m w i)) (∃(r:uj),r.seq=l.seq/\aa xW r.out=aa xW l.out/\YK m r i))/\∀(n:uj),m n->((0:Int)<=(1:Int)/\1<=(fY d))/\((0:Int)<=(1:Int)/\1<=(bC d))/\∃(p:xo),aa my p.x=ac (ao 1) (aa my d.x)/\aa my p.y=ac (ao 1) (aa my d.y)/\i.d.seq+(↑p.M.length:Int)=n.seq/\aa xW (jQ i p)=aa xW n.out/\Zy b p c d i))) (∃(e:Bool),∃(f:Bool->Prop),du (!(i.a.imp.dp==i.b.imp.dp && (i.a.imp.dq==i.b.imp.dq && (i.a.imp.count==i.b.imp.count && am)))) (UH f i d) (∃(g:Bool),g=!i.a.has==i.b.has/\sJ f g i d)/\∀(g:Bool),f g->du g (∃(h:Lv),h.dp=i.b.imp.dp/\h.dq=i.b.imp.dq/\h.count=i.b.imp.count/\∃(j:Lv->Prop),du (!i.b.has) (∃(k:Lv),k.dp=0/\k.dq=0/\k.count=0/\Y9 j k i d) (∃(k:Lv),k.dp=h.dp/\k.dq=h.dq/\k.count=h.count/\Y9 j k i d)/\∀(k:Lv),j k->∃(l:Ib),(↑l.m.inst:Int)=(↑i.n:Int)/\l.m.side=i.s/\l.m.l.dp=k.dp/\l.m.l.dq=k.dq/\l.m.l.count=k.count/\l.m.imp=am/\l.d.seq=i.d.seq+(↑d.M.length:Int)/\aa xW l.d.out=aa xW (jQ i d)/\(nM l)/\fp (ez (i.d.seq+(bW i)=l.d.seq+(↑(1:Nat):Int)/\aa xW (bS i)=aa xW (l.d.out++vJ l.d.seq [l.m])/\True))) (ez (i.d.seq+(bW i)=i.d.seq+(↑d.M.length:Int)/\aa xW (bS i)=aa xW (jQ i d)/\True)))
def Zq (a:AL):Prop:=(-4611686018427387904)<=a.d.seq/\a.d.seq+(↑(a.a.levels.length+a.b.levels.length+1):Int)<=4611686018427387904/\a.d.out.length+(a.a.levels.length+a.b.levels.length+1)<=1000000000
def sR (a:JL) (b:Nat):=([]++vJ a.seq (wR 0 (ab b a.v) (ab b a.w)))
def U7 (a:Nat) (b:JL):=(↑(wR 0 (ab a b.v) (ab a b.w)).length:Int)
def sF (a:JL):=(↑(aa xM a.v).length:Int)
@[reducible] def QX (a:Sd)(b:List (List D))(c d e:Int)(f:Bool)(R:Prop):Prop:=aa my a.levels=b/\a.imp.dp=c/\a.imp.dq=d/\a.imp.count=e/\a.has=f/\R
def yYd (i:JL):Prop:=
 du ((sF i) !=(↑(aa xM i.w).length:Int)) (ez (aa xW (vJ i.seq (wR 0 i.v i.w))=[]/\True)) (∃(a:Nat),(↑a:Int)=0/\i.seq+(U7 a i)=i.seq/\aa xW (sR i a)=[]/\∃(b:Nat->Prop),∃(c:Nat->Nat),b a/\∀(d:Nat),b d->du (decide ((↑d:Int)<(sF i))) (((0:Int)<=(0:Int)/\0<(↑(2:Nat):Int))/\∃(e:Int),zF [[dI 1],[dI 2]] (ao 0) 0 1=ar [dI e]/\(0<=(↑d:Int)/\(↑d:Int)<(sF i))/\∃(f:List (List D)),∃(g:Int),∃(h:Int),∃(j:Int),∃(k:Bool),zF (aa xM i.v) (↑d:Int).toNat 0 5=ar [D.ro 3 f,dI g,dI h,dI j,D.v (.bool k)]/\(0<=(↑d:Int)/\(↑d:Int)<(↑(aa xM i.w).length:Int))/\∃(l:List (List D)),∃(m:Int),∃(n:Int),∃(p:Int),∃(q:Bool),zF (aa xM i.w) (↑d:Int).toNat 0 5=ar [D.ro 3 l,dI m,dI n,dI p,D.v (.bool q)]/\∃(r:AL),(↑r.n:Int)=(↑d:Int)/\r.s=e/\QX r.a f g h j k (QX r.b l m n p q (r.d.seq=i.seq+(U7 d i)/\aa xW r.d.out=aa xW (sR i d)/\(Zq r)/\fp ((dB)/\∃(t:Int),zF [[dI 1],[dI 2]] (ap.wrap ((0:Int)+(1:Int))).toNat 0 1=ar [dI t]/\(0<=(↑d:Int)/\(↑d:Int)<(sF i))/\∃(u:List (List D)),∃(v:Int),∃(w:Int),∃(x:Int),∃(y:Bool),zF (aa xM i.v) (↑d:Int).toNat 5 5=ar [D.ro 3 u,dI v,dI w,dI x,D.v (.bool y)]/\(0<=(↑d:Int)/\(↑d:Int)<(↑(aa xM i.w).length:Int))/\∃(z:List (List D)),∃(ma:Int),∃(sc:Int),∃(lh:Int),∃(wk:Bool),zF (aa xM i.w) (↑d:Int).toNat 5 5=ar [D.ro 3 z,dI ma,dI sc,dI lh,D.v (.bool wk)]/\∃(iX:AL),(↑iX.n:Int)=(↑d:Int)/\iX.s=t/\QX iX.a u v w x y (QX iX.b z ma sc lh wk (iX.d.seq=r.d.seq+(bW r)/\aa xW iX.d.out=aa xW (bS r)/\(Zq iX)/\fp (∃(qv:Nat),(↑qv:Int)=ap.wrap ((↑d:Int)+1)/\i.seq+(U7 qv i)=iX.d.seq+(bW iX)/\aa xW (sR i qv)=aa xW (bS iX)/\b qv/\c qv<c d/\dm (af [V.own 2] 89)/\dm (ag 10 (aa xM i.w))/\dm (af [V.own 0] 89)/\dm (ag 10 (aa xM i.v))))))))) (ez (aa xW (vJ i.seq (wR 0 i.v i.w))=aa xW (sR i d)/\True)))
open Classical
def zRg {l:List Quote} {k:Nat} {q:Quote} (b:Quote) (h:l[k]? =ar q):cV (l.take (k+1)) b=if q.dp=b.dp then(if q.dq>(cV (l.take k) b).1 then q.dq else(cV (l.take k) b).1,(cV (l.take k) b).2+1)else cV (l.take k) b:=by
 rw[cV,tv,h,DP,Jh,DN,List.foldl_nil];rfl
def z1x (b:Quote) (l:List Quote):∀k,k<=l.length->0<=(cV (l.take k) b).2/\(cV (l.take k) b).2<=k
 |0,_=>⟨by rw[GU];exact yl 0,by rw[GU];exact yl 0⟩
 |k+1,h=>by
  obtain⟨q,hq⟩:=z6 (l:=l) (i:=k) oM;have:=z1x b l k oM;rw[zRg b hq];split
  ·dsimp only;constructor<;>omega
  ·constructor<;>omega
def xAf (i:yy) (h:JR.du i):yYk i:=by
 obtain⟨hs,hl⟩:(i.s=1\/i.s=2)/\i.l.length<=1000000:=h;have DV:(i.l.map zK).length=i.l.length:=iz _;unfold yYk fp ez kJ Zu wP gB dI;rw[DV];refine⟨i,rfl,rfl,⟨hs,hl⟩,λ_ _=>Cv.du.mk (λc=> ?_) (λc=> ?_)⟩
 ·have e:qV i.l i.s=(⟨0,0,0⟩,ak):=by rw[qV,dx (by simpa using c)]
  rw[e];exact⟨(),ic⟩
 have e:qV i.l i.s=(⟨(zN i.l i.s).1.dp,(cV i.l (zN i.l i.s).1).1,(cV i.l (zN i.l i.s).1).2⟩,am):=by rw[qV,fk (by simpa using c)]
 rw[e];generalize (zN i.l i.s).1=b;refine⟨0,iH ⟨rfl,λk=>k<=i.l.length,λk=>i.l.length-k,oQ _,λk hk=>zI (λiq=> ?_) (λiq=> ?_)⟩⟩
 ·obtain⟨q,hq⟩:=z6 (l:=i.l) (i:=k) oM;have st:=zRg b hq;have bd:=z1x b i.l k hk;have hk:k<=i.l.length:=hk;refine⟨⟨oM,oM⟩,q.dp,q.dq,q.a.inst,q.a.side,q.b.inst,q.b.side,kf hq (by simp[zK]) rfl,Cv.du.mk (λe=>⟨k+1,?_⟩) (λe=>⟨k+1,?_⟩)⟩
  ·rw[st,fk (by simpa using e)];exact⟨rfl,by dsimp only;rw[iD (by omega)],um oM,A6 ⟨rfl,Z9,Z9,trivial⟩⟩
  ·rw[st,dx (by simpa using e)];exact⟨rfl,rfl,um oM,A6 ⟨rfl,Z9,Z9,trivial⟩⟩
 ·have hk:k<=i.l.length:=hk;obtain rfl:k=i.l.length:=by omega
  rw[CV];exact⟨(),ic⟩
def yWf:JR.ok Tryz.prog 95:=ix mixed (dz Yt fx) 0 (λ_=>[]) (λi=>y0f i) [] Tryz.func95 xAf
def YX (p:fj) (B:List (List zE)):(xJ p B).length=p.count:=by rw[xJ,iz,List.length_range]
def yFy (p:fj) (B:List (List zE)) {j:Nat} (h:j<p.count):(xJ p B)[j]? =ar (Hr p B j 1,Hr p B j 2):=by
 rw[xJ,uz,KZ h];rfl
def yRe (a b:Lv):(a.dp==b.dp && (a.dq==b.dq && (a.count==b.count && am)))=decide (a=b):=by
 rw[Bool.eq_iff_iff,decide_eq_true_iff];obtain⟨p,q,c⟩:=a;obtain⟨p2,q2,c2⟩:=b;simp
def VJ {v:Vw} {k:Nat} {b:Sd×Sd} (h:v[k]? =ar b):zF (v.map xM) k 0 10=ar [D.ro 3 (b.1.levels.map my),.v (.int .i64 b.1.imp.dp),.v (.int .i64 b.1.imp.dq),.v (.int .i64 b.1.imp.count),.v (.bool b.1.has),.ro 3 (b.2.levels.map my),.v (.int .i64 b.2.imp.dp),.v (.int .i64 b.2.imp.dq),.v (.int .i64 b.2.imp.count),.v (.bool b.2.has)]/\
 zF (v.map xM) k 0 5=ar [D.ro 3 (b.1.levels.map my),.v (.int .i64 b.1.imp.dp),.v (.int .i64 b.1.imp.dq),.v (.int .i64 b.1.imp.count),.v (.bool b.1.has)]/\
 zF (v.map xM) k 5 5=ar [D.ro 3 (b.2.levels.map my),.v (.int .i64 b.2.imp.dp),.v (.int .i64 b.2.imp.dq),.v (.int .i64 b.2.imp.count),.v (.bool b.2.has)]:=
 ⟨kf h (by simp[xM]) rfl,kf h (by simp[xM]) rfl,kf h (by simp[xM]) rfl⟩
def X6 (q:Int):∀(A B:List VM),vJ q (A++B)=vJ q A++vJ (q+A.length) B
 |[],B=>by simp[vJ]
 |a::A,B=>by
  rw[tu,vJ,vJ,X6,iY,tu];congr 3;omega
def TF (d:uj) (A B:List VM):(d.add A).add B=d.add (A++B):=by
 rw[uj.add,uj.add,uj.add,X6,iQ,km];congr 1;dsimp only;omega
def y4w (i:Ib) (h:Gf.du i):yQg i:=by
 obtain⟨h1,h2,h3⟩:i.d.ok 1:=h;unfold yQg ez dI;have e:ap.wrap (i.d.seq+1)=i.d.seq+1:=iD oM;rw[e];exact⟨trivial,by rw[iz];omega,(),rfl,by rw[jz];rfl,trivial⟩
def yJa:Gf.ok Tryz.prog 200:=ix mixed fx 0 (λ_=>[]) (λ_=>[]) [] Tryz.func200 y4w
def rK {s:Int}:∀(k:Nat) (X Y:List Lv),(uS s k X Y).length<=k
 |0,X,Y=>by rw[uS];exact mg 0
 |k+1,[],[]=>by rw[uS];exact oQ _
 |k+1,x::X,[]=>by rw[uS,iY];have:=rK (s:=s) k X [];omega
 |k+1,[],y::Y=>by rw[uS,iY];have:=rK (s:=s) k [] Y;omega
 |k+1,x::X,y::Y=>by
  have h1:=rK (s:=s) k X (y::Y);have h2:=rK (s:=s) k (x::X) Y;have h3:=rK (s:=s) k X Y;rw[uS];split
  ·rw[iY];omega
  split
  ·rw[iY];omega
  rw[iQ];split
  ·simp only[Al];omega
  ·simp only[Cj];omega
def z8b (n:Nat) (s:Int) (a b:Sd):(wU n s a b).length<=a.levels.length+b.levels.length+1:=by
 have:=rK (s:=s) (a.levels.length+b.levels.length) a.levels b.levels;rw[wU,iQ,iz];split
 ·rw[Cj];omega
 ·simp only[Al];omega
def Xy:∀(n j:Nat) {v w:Vw} {a b:Sd×Sd},v[j]? =ar a->w[j]? =ar b->wR n (v.take (j+1)) (w.take (j+1))=wR n (v.take j) (w.take j)++(wU (n+j) 1 a.1 b.1++wU (n+j) 2 a.2 b.2)
 |n,0,x::v,y::w,a,b,h1,h2=>by
  obtain rfl:x=a:=by simpa using h1
  obtain rfl:y=b:=by simpa using h2
  simp[wR]
 |n,j+1,x::v,y::w,a,b,h1,h2=>by
  have:=Xy (n+1) j (v:=v) (w:=w) (a:=a) (b:=b) (by simpa using h1) (by simpa using h2);rw[xk,xk,xk,xk,wR,wR,this,km,km,km,DM n 1 j,Hw 1 j]
 |_,0,[],_,_,_,h1,_=>by simp at h1
 |_,j+1,[],_,_,_,h1,_=>by simp at h1
 |_,0,_::_,[],_,_,_,h2=>by simp at h2
 |_,j+1,_::_,[],_,_,_,h2=>by simp at h2
def UL {v:Vw} {j:Nat} {a:Sd×Sd} (h:v[j]? =ar a):Vw.qm (v.take (j+1))=Vw.qm (v.take j)+(a.1.levels.length+a.2.levels.length):=by
 rw[Vw.qm,Vw.qm,tv,h,DP,jz,Nh];simp
def yBq (v:Vw) (j:Nat):Vw.qm (v.take j)<=Vw.qm v:=by
 conv=>rhs;rw[<- A3 j v]
 rw[Vw.qm,Vw.qm,jz,Nh];omega
def yKc (v w:Vw):∀j,j<=v.length->j<=w.length->(wR 0 (v.take j) (w.take j)).length<=Vw.qm (v.take j)+Vw.qm (w.take j)+2*j
 |0,_,_=>by rw[GU,wR];exact oQ _;simp
 |j+1,h1,h2=>by
  obtain⟨a,ha⟩:=z6 (l:=v) (i:=j) oM;obtain⟨b,hb⟩:=z6 (l:=w) (i:=j) oM;have:=yKc v w j oM oM;have s1:=z8b (0+j) 1 a.1 b.1;have s2:=z8b (0+j) 2 a.2 b.2;rw[Xy 0 j ha hb,UL ha,UL hb,iQ,iQ];omega
def sP (q:Int):∀M:List VM,(vJ q M).length=M.length
 |[]=>rfl
 |m::M=>by rw[vJ,iY,sP,iY]
def Nv (q:Int) (M:List VM) (m:VM):q+((M++[m]).length:Nat)=q+(M.length:Nat)+((1:Nat):Int):=by
 rw[iQ,Cj];omega
def Nu (o:List I5) (q:Int) (M:List VM) (m:VM):(o++vJ q (M++[m])).map xW=((o++vJ q M)++vJ (q+(M.length:Nat)) [m]).map xW:=by rw[X6,km]
def DT (x:Lv) (X:List Lv):zF ((x::X).map my) 0 0 1=ar [D.v (.int .i64 x.dp)]/\zF ((x::X).map my) 0 0 3=ar [D.v (.int .i64 x.dp),.v (.int .i64 x.dq),.v (.int .i64 x.count)]:=⟨rfl,rfl⟩
def yQr (s:Int) (k:Nat):uS s k [] []=[]:=by cases k<;>rw[uS]
def y1s (i:AL) (h:Gg.du i):yQt i:=by
 obtain⟨d,n,s,⟨al,ai,ah⟩,⟨bl,bi,bh⟩⟩:=i;obtain⟨h1,h2,h3⟩:uj.ok d (al.length+bl.length+1):=h;unfold yQt fp ez YK YV Zy Y9 UH ZW fp sJ ZG sD jQ bW bS mW fY b7 bC nM dI;refine⟨⟨al,bl,[]⟩,rfl,rfl,by simp,by simp[vJ],λj=>∃k,j.x.length+j.y.length<=k/\(uS s (al.length+bl.length) al bl).map (λl=>(⟨n,s,l,ak⟩:VM))=j.M++(uS s k j.x j.y).map (λl=>(⟨n,s,l,ak⟩:VM))/\k+j.M.length<=al.length+bl.length,λj=>j.x.length+j.y.length,⟨al.length+bl.length,mg _,rfl,mg _⟩,?_⟩;rintro⟨x,y,M⟩ ⟨k,hk,hM,hl⟩;dsimp only at hk hM hl ⊢;have hx:(x.map my).length=x.length:=iz _;have hy:(y.map my).length=y.length:=iz _;have Ny:uj.ok ⟨d.seq+(M.length:Nat),d.out++vJ d.seq M⟩ 1:=⟨Z9,Z9,by dsimp only;rw[iQ,sP];omega⟩
 rw[hx,hy,iD (by omega)];refine zI (λc=> ?_) (λc=> ?_)
 ·obtain⟨k',rfl⟩:∃k',k=k'+1:=⟨k-1,oM⟩
  rcases x with _|⟨a,X⟩
  ·rcases y with _|⟨b,Y⟩
   ·exact absurd c (by simp)
   refine⟨ak,λt=>t=ak,Cv.du.mk (λe=> ?_) (λ_=>Cv.du.mk (λe=>absurd e (by simp)) (λ_=>⟨ak,rfl,rfl,ic⟩)),?_⟩
   ·exfalso;simp at e;omega
   rintro _ rfl;refine Cv.du.mk (λc=>absurd c Z8) (λ_=>⟨ak,λt=>t=am,Cv.du.mk (λ_=>⟨am,rfl,rfl,ic⟩) (λe=>absurd e (by simp)),?_⟩);rintro _ rfl;refine Cv.du.mk (λ_=> ?_) (λc=>absurd c Z8);rw[iY]at hk;refine⟨⟨Z8,by rw[iY];omega⟩,b.dp,b.dq,b.count,(DT b Y).2,⟨_,⟨n,s,b,ak⟩⟩,rfl,rfl,rfl,rfl,rfl,rfl,rfl,rfl,Ny,λ_ _=>⟨⟨Z8,by rw[iY];omega⟩,⟨[],Y,M++[⟨n,s,b,ak⟩]⟩,rfl,rfl,Nv _ _ _,Nu _ _ _ _,⟨k',Z9,?_,by dsimp only;rw[iQ,Cj];omega⟩,by dsimp only;rw[iY];omega,ic⟩⟩;rw[hM,uS,iT,km];rfl
  rcases y with _|⟨b,Y⟩
  ·refine⟨ak,λt=>t=am,Cv.du.mk (λ_=>⟨am,rfl,rfl,ic⟩) (λe=>absurd e (by simp)),?_⟩;rintro _ rfl;refine Cv.du.mk (λ_=> ?_) (λc=>absurd c Z8);rw[iY]at hk;refine⟨⟨Z8,by rw[iY];omega⟩,a.dp,(DT a X).1,⟨_,⟨n,s,⟨a.dp,0,0⟩,ak⟩⟩,rfl,rfl,rfl,rfl,rfl,rfl,rfl,rfl,Ny,λ_ _=>⟨⟨Z8,by rw[iY];omega⟩,⟨X,[],M++[⟨n,s,⟨a.dp,0,0⟩,ak⟩]⟩,rfl,rfl,Nv _ _ _,Nu _ _ _ _,⟨k',by dsimp only;simp only[Al]at hk ⊢;omega,?_,by dsimp only;rw[iQ,Cj];omega⟩,by dsimp only;rw[iY];omega,ic⟩⟩;rw[hM,uS,iT,km];rfl
  rw[iY,iY]at hk;have la:(0:Int)<=0/\(0:Int)<((a::X).length:Nat):=⟨Z8,by rw[iY];omega⟩
  have lb:(0:Int)<=0/\(0:Int)<((b::Y).length:Nat):=⟨Z8,by rw[iY];omega⟩
  have la1:(0:Int)<=1/\(1:Int)<=((a::X).length:Nat):=⟨Z8,by rw[iY];omega⟩
  have lb1:(0:Int)<=1/\(1:Int)<=((b::Y).length:Nat):=⟨Z8,by rw[iY];omega⟩
  refine⟨ak,λt=>t=jj s a.dp b.dp,Cv.du.mk (λe=> ?_) (λ_=>Cv.du.mk (λ_=>⟨la,a.dp,(DT a X).1,lb,b.dp,(DT b Y).1,⟨s,a.dp,b.dp⟩,rfl,rfl,rfl,trivial,λ_ _=>⟨_,rfl,rfl,ic⟩⟩) (λe=> ?_)),?_⟩
  ·exfalso;simp at e;omega
  ·exfalso;simp at e
  rintro _ rfl;refine Cv.du.mk (λc1=> ?_) (λc1=> ?_)
  ·refine⟨la,a.dp,(DT a X).1,⟨_,⟨n,s,⟨a.dp,0,0⟩,ak⟩⟩,rfl,rfl,rfl,rfl,rfl,rfl,rfl,rfl,Ny,λ_ _=>⟨la1,⟨X,b::Y,M++[⟨n,s,⟨a.dp,0,0⟩,ak⟩]⟩,rfl,rfl,Nv _ _ _,Nu _ _ _ _,⟨k',by dsimp only;rw[iY];omega,?_,by dsimp only;rw[iQ,Cj];omega⟩,by dsimp only;rw[iY,iY];omega,ic⟩⟩;rw[hM,uS,fk c1,iT,km];rfl
  have c1:¬jj s a.dp b.dp=am:=by simp[c1]
  refine⟨ak,λt=>t=jj s b.dp a.dp,Cv.du.mk (λe=> ?_) (λ_=>⟨lb,b.dp,(DT b Y).1,la,a.dp,(DT a X).1,⟨s,b.dp,a.dp⟩,rfl,rfl,rfl,trivial,λ_ _=>⟨_,rfl,rfl,ic⟩⟩),?_⟩
  ·exfalso;simp at e;omega
  rintro _ rfl;refine Cv.du.mk (λc2=> ?_) (λc2=> ?_)
  ·refine⟨lb,b.dp,b.dq,b.count,(DT b Y).2,⟨_,⟨n,s,b,ak⟩⟩,rfl,rfl,rfl,rfl,rfl,rfl,rfl,rfl,Ny,λ_ _=>⟨lb1,⟨a::X,Y,M++[⟨n,s,b,ak⟩]⟩,rfl,rfl,Nv _ _ _,Nu _ _ _ _,⟨k',by dsimp only;rw[iY];omega,?_,by dsimp only;rw[iQ,Cj];omega⟩,by dsimp only;rw[iY,iY];omega,ic⟩⟩;rw[hM,uS,dx c1,fk c2,iT,km];rfl
  have c2:¬jj s b.dp a.dp=am:=by simp[c2]
  by_cases vc:a=b
  ·refine⟨⟨_,_⟩,rfl,rfl,λD=>D=⟨d.seq+(M.length:Nat),d.out++vJ d.seq M⟩,⟨ak,λt=>t=ak,⟨la,a.dp,a.dq,a.count,(DT a X).2,lb,b.dp,b.dq,b.count,(DT b Y).2,_,rfl,by rw[yRe,kx vc];rfl,ic⟩,?_⟩,?_⟩
   ·rintro _ rfl;exact Cv.du.mk (λc=>absurd c Z8) (λ_=>⟨_,rfl,rfl,rfl,ic⟩)
   rintro _ rfl;refine⟨la1,lb1,⟨X,Y,M⟩,jh ⟨rfl,⟨k',Z9,?_,Z9⟩,by dsimp only;rw[iY,iY];omega,ic⟩⟩;rw[hM,uS,dx c1,dx c2,fk vc];rfl
  ·refine⟨⟨_,_⟩,rfl,rfl,λD=>D=uj.add ⟨d.seq+(M.length:Nat),d.out++vJ d.seq M⟩ [⟨n,s,b,ak⟩],⟨ak,λt=>t=am,⟨la,a.dp,a.dq,a.count,(DT a X).2,lb,b.dp,b.dq,b.count,(DT b Y).2,_,rfl,by rw[yRe,jq vc];rfl,ic⟩,?_⟩,?_⟩
   ·rintro _ rfl;exact Cv.du.mk (λ_=>⟨lb,b.dp,b.dq,b.count,(DT b Y).2,⟨_,⟨n,s,b,ak⟩⟩,rfl,rfl,rfl,rfl,rfl,rfl,rfl,rfl,Ny,λ_ _=>⟨_,rfl,rfl,rfl,ic⟩⟩) (λc=>absurd c Z8)
   rintro _ rfl;refine⟨la1,lb1,⟨X,Y,M++[⟨n,s,b,ak⟩]⟩,rfl,rfl,Nv _ _ _,Nu _ _ _ _,⟨k',Z9,?_,by dsimp only;rw[iQ,Cj];omega⟩,by dsimp only;rw[iY,iY];omega,ic⟩;rw[hM,uS,dx c1,dx c2,dx vc,jz,km];rfl
 obtain rfl:x=[]:=zm oM;obtain rfl:y=[]:=zm oM;rw[yQr,CS,pd]at hM;rw[yRe];refine⟨ak,λt=>t=Pk ⟨al,ai,ah⟩ ⟨bl,bi,bh⟩,Cv.du.mk (λe=>⟨am,rfl,?_,ic⟩) (λe=>⟨_,rfl,?_,ic⟩),?_⟩
 ·have e:ai≠bi:=by simpa using e
  rw[Pk];simp[e]
 ·have e:ai=bi:=by simpa using e
  rw[Pk,e];cases ah<;>cases bh<;>simp
 rintro _ rfl;refine Cv.du.mk (λe=>⟨bi,rfl,rfl,rfl,λl=>l=M5 ⟨bl,bi,bh⟩,Cv.du.mk (λe2=>⟨lv0,rfl,rfl,rfl,?_,ic⟩) (λe2=>⟨bi,rfl,rfl,rfl,?_,ic⟩),?_⟩) (λe=> ?_)
 ·rw[M5,dx (by simpa using e2)]
 ·rw[M5,fk (by simpa using e2)]
 ·rintro _ rfl;have yt:wU n s ⟨al,ai,ah⟩ ⟨bl,bi,bh⟩=M++[⟨n,s,M5 ⟨bl,bi,bh⟩,am⟩]:=by rw[wU,fk e,hM]
  rw[yt];exact⟨⟨_,⟨n,s,M5 ⟨bl,bi,bh⟩,am⟩⟩,rfl,rfl,rfl,rfl,rfl,rfl,rfl,rfl,Ny,λ_ _=>⟨(),Nv _ _ _,Nu _ _ _ _,trivial⟩⟩
 ·have yt:wU n s ⟨al,ai,ah⟩ ⟨bl,bi,bh⟩=M:=by rw[wU,dx (by simp[e]),hM,pd]
  rw[yt];exact⟨(),rfl,rfl,trivial⟩
def yNe:Gg.ok Tryz.prog 164:=ix mixed (dz yJa (dz yHb fx)) 0 (λ_=>y1t) (λi=>y3r i) [] Tryz.func164 y1s
def y7z (i:JL) (h:Ki.du i):yYd i:=by
 obtain⟨hvw,⟨s1,s2⟩,l1,l2,hn⟩:i.v.length=i.w.length/\(-4000000000000000000<=i.seq/\i.seq<=4000000000000000000)/\Vw.qm i.v<=100000000/\Vw.qm i.w<=100000000/\i.v.length<=1000000:=h;have hmx:(i.v.map xM).length=i.v.length:=iz _;have hmy:(i.w.map xM).length=i.w.length:=iz _;unfold yYd QX fp ez dB bW bS sF U7 sR Zq dI;rw[hmx,hmy];refine Cv.du.mk (λc=> ?_) (λ_=> ?_)
 ·have c:(i.v.length:Int)≠i.w.length:=by simpa using c
  omega
 refine⟨0,rfl,by simp[wR],by simp[wR,vJ],λj=>j<=i.v.length,λj=>i.v.length-j,oQ _,λj hj=>zI (λe=> ?_) (λe=> ?_)⟩
 ·have hj:j<=i.v.length:=hj;obtain⟨a,ha⟩:=z6 (l:=i.v) (i:=j) oM;obtain⟨b,hb⟩:=z6 (l:=i.w) (i:=j) oM;have hd:=yKc i.v i.w j hj oM;have t1:=UL ha;have t2:=UL hb;have u1:=yBq i.v (j+1);have u2:=yBq i.w (j+1);have q1:=z8b j 1 a.1 b.1;have hvt:=Xy 0 j ha hb;rw[oC]at hvt;have bdv:(0:Int)<=j/\(j:Int)<(i.v.length:Nat):=⟨oM,e⟩
  have bdw:(0:Int)<=j/\(j:Int)<(i.w.length:Nat):=⟨oM,oM⟩
  obtain⟨D,hD⟩:∃D:uj,D=uj.add ⟨i.seq,[]⟩ (wR 0 (i.v.take j) (i.w.take j)):=⟨_,rfl⟩
  have hDs:D.seq=i.seq+((wR 0 (i.v.take j) (i.w.take j)).length:Nat):=by rw[hD];rfl
  have hDo:D.out=[]++vJ i.seq (wR 0 (i.v.take j) (i.w.take j)):=by rw[hD];rfl
  have hDl:D.out.length=(wR 0 (i.v.take j) (i.w.take j)).length:=by rw[hDo,zi,sP]
  refine⟨⟨Z8,Z8⟩,1,rfl,bdv,_,_,_,_,_,(VJ ha).2.1,bdw,_,_,_,_,_,(VJ hb).2.1,⟨D,j,1,a.1,b.1⟩,rfl,rfl,rfl,rfl,rfl,rfl,rfl,rfl,rfl,rfl,rfl,rfl,hDs,by rw[hDo],⟨Z9,Z9,Z9⟩,λ_ _=>⟨⟨Z8,Z8⟩,2,rfl,bdv,_,_,_,_,_,(VJ ha).2.2,bdw,_,_,_,_,_,(VJ hb).2.2,⟨D.add (wU j 1 a.1 b.1),j,2,a.2,b.2⟩,rfl,rfl,rfl,rfl,rfl,rfl,rfl,rfl,rfl,rfl,rfl,rfl,rfl,rfl,⟨by simp only[uj.add];omega,by simp only[uj.add];omega,by simp only[uj.add];rw[iQ,sP];omega⟩,λ_ _=>⟨j+1,um oM,?_,?_,Z9,Z9,ic⟩⟩⟩
  ·show(uj.add ⟨i.seq,[]⟩ (wR 0 (i.v.take (j+1)) (i.w.take (j+1)))).seq=((D.add (wU j 1 a.1 b.1)).add (wU j 2 a.2 b.2)).seq;rw[hvt,hD,TF,TF]
  ·show(uj.add ⟨i.seq,[]⟩ (wR 0 (i.v.take (j+1)) (i.w.take (j+1)))).out.map xW=((D.add (wU j 1 a.1 b.1)).add (wU j 2 a.2 b.2)).out.map xW;rw[hvt,hD,TF,TF]
 ·have hj:j<=i.v.length:=hj;rw[oV (by omega),oV (by omega)];exact⟨(),rfl,trivial⟩
def yMq:Ki.ok Tryz.prog 114:=ix mixed (dz yNe fx) 1 (λ_=>[]) (λi=>y7q i) [] Tryz.func114 y7z
def yYq:∀{l:List zE} {v:Lv},v∈qg l->(1<=v.count/\v.count<=l.length)/\∃o∈l,o.dp=v.dp
 |[],v,h=>by cases h
 |o::l,v,h=>by
  have ih:∀v∈qg l,(1<=v.count/\v.count<=l.length)/\∃o∈l,o.dp=v.dp:=λv hv=>yYq hv
  rw[qg]at h;rw[iY];split at h
  ·rw[xj]at h;subst h;exact⟨Z9,o,jg,rfl⟩
  ·rename_i w ws e;rw[e]at ih;have hw:=ih w jg;split at h
   ·rename_i ep;rcases ku.1 h with rfl|h
    ·exact⟨Z9,o,jg,ep.symm⟩
    ·obtain⟨a,x,hx,hp⟩:=ih v (jx _ h);exact⟨oM,x,jx _ hx,hp⟩
   ·rcases ku.1 h with rfl|h
    ·exact⟨Z9,o,jg,rfl⟩
    ·obtain⟨a,x,hx,hp⟩:=ih v h;exact⟨oM,x,jx _ hx,hp⟩
def yBc:∀l:List zE,(qg l).length<=l.length
 |[]=>mg 0
 |o::l=>by
  have ih:=yBc l;rw[qg,iY];cases e:qg l with
  |nil=>simp
  |cons w ws=>
   rw[e,iY]at ih;dsimp only;split
   ·rw[iY];omega
   ·rw[iY,iY];omega
def y5c {s:Int} {L:List Lv} (h:VK s L) (hp:∀l∈L,1<=l.dq/\1<=l.count) (i:Nat):y2v s L i:=by
 intro a ha;have hm:=hp a (mc ha);refine⟨hm.1,hm.2,?_⟩;rintro j b rfl hb;obtain⟨h1,e1⟩:=ju.1 ha;obtain⟨h2,e2⟩:=ju.1 hb;have:=(List.pairwise_iff_getElem.1 h) j (j+1) h2 h1 (KT j);rw[e1,e2]at this;exact this
def yEv {p:fj} {B:List (List zE)} (h:lu p B) {k:Nat} {L:List zE} (hL:B[k]? =ar L) {s:Int} (hs:s=1\/s=2):
 (∀i,y2v s (x7 L s) i)/\(x7 L s).length<=255/\∀l∈x7 L s,(1<=l.dq/\l.dq<=250000000)/\l.fit:=by
 obtain⟨h1,h2,h3⟩:=h.od k L hL;have hf:(L.filter λo=>decide (o.side=s)).length<=L.length:=GX _ _;have hl:=yBc (L.filter λo=>decide (o.side=s));have tj:∀l∈x7 L s,(1<=l.dq/\l.dq<=250000000)/\(1<=l.count/\l.count<=250)/\(-2000000<=l.dp/\l.dp<=2000000):=λl hm=>by
  have q:=V6 (λo ho=>h1 o (qk.1 ho).1) hm;obtain⟨c,o,ho,e⟩:=yYq hm;have hp:=h.ok.xf hL o (qk.1 ho).1;rw[e]at hp;exact⟨oM,oM,hp⟩
 refine⟨y5c (yUv h hL hs).1 λl hm=>⟨(tj l hm).1.1,(tj l hm).2.1.1⟩,by rw[x7];omega,λl hm=> ?_⟩;obtain⟨a,b,c⟩:=tj l hm;exact⟨a,⟨oM,oM⟩,⟨oM,oM⟩,⟨oM,oM⟩⟩
def z1z {p:fj} {B:List (List zE)} (h:lu p B) {k:Nat} {L:List zE} (hL:B[k]? =ar L) {s:Int} (hs:s=1\/s=2) (hb:(gm L s).2=am):1<=(gm L s).1.dq/\(gm L s).1.dq<=250000000:=by
 have hm:(gm L s).1∈x7 L s:=by
  rw[gm]at hb ⊢;split at hb
  ·cases hb
  ·rename_i v vs e;rw[e];exact jg
 exact((yEv h hL hs).2.2 _ hm).1
def yZe {p:fj} {B:List (List zE)} (h:lu p B) {i s:Int} (hi:0<=i/\i<(B.map yS).length) (hs:s=1\/s=2) (hh:((B.map yS).getD i.toNat fq).has s=am):1<=((B.map yS).getD i.toNat fq).dq s/\((B.map yS).getD i.toNat fq).dq s<=250000000:=by
 rw[iz]at hi;obtain⟨L,hL⟩:=z6 (l:=B) (i:=i.toNat) oM;have e:(B.map yS).getD i.toNat fq=yS L:=by rw[mi,uz,hL];rfl
 rw[e]at hh ⊢;obtain⟨t1,t2,t3,t4,t5,t6⟩:=TI L;rcases hs with rfl|rfl
 ·rw[iS.has,fk rfl,t3]at hh;rw[iS.dq,fk rfl,t2];exact z1z h hL (.inl rfl) hh
 ·rw[iS.has,dx (by decide),t6]at hh;rw[iS.dq,dx (by decide),t5];exact z1z h hL (.inr rfl) hh
def yTe {p:fj} {B:List (List zE)} (h:lu p B) {n s:Int} (hs:s=1\/s=2) {q:Quote} (hq:q∈yC ⟨p,B.map yS,n⟩ s):(1<=q.dq/\q.dq<=250000000)/\(-2000000<=q.dp/\q.dp<=2000000):=by
 rw[yC,qk]at hq;obtain⟨ok,-⟩:=yEi h.ok.pc (by rw[iz,h.ok.bl]) hs hq.1;have qa:=yZe h ok.a ok.sa ok.ha;have qb:=yZe h ok.b ok.sb ok.hb;have hp:p.dp n q.dp=0:=by simpa using hq.2
 exact⟨by rw[ok.dq];omega,OM h.ok.pc hp⟩
def ZR (b:Quote) {M:Int}:∀(l:List Quote) (a:Int×Int),(∀q∈l,1<=q.dq/\q.dq<=M)->1<=a.1->a.1<=M->
 (1<=(l.foldl (λa q=>if q.dp=b.dp then(if q.dq>a.1 then q.dq else a.1,a.2+1)else a) a).1/\(l.foldl (λa q=>if q.dp=b.dp then(if q.dq>a.1 then q.dq else a.1,a.2+1)else a) a).1<=M)/\
 a.2<=(l.foldl (λa q=>if q.dp=b.dp then(if q.dq>a.1 then q.dq else a.1,a.2+1)else a) a).2/\(l.foldl (λa q=>if q.dp=b.dp then(if q.dq>a.1 then q.dq else a.1,a.2+1)else a) a).2<=a.2+l.length/\
 (b∈l->a.2+1<=(l.foldl (λa q=>if q.dp=b.dp then(if q.dq>a.1 then q.dq else a.1,a.2+1)else a) a).2)
 |[],a,_,h1,h2=>⟨⟨h1,h2⟩,yl _,by simp,λh=>by cases h⟩
 |q::l,a,hq,h1,h2=>by
  have q0:=hq q jg;rw[DN,iY];by_cases e:q.dp=b.dp
  ·rw[fk e];obtain⟨r1,r2,r3,r4⟩:=ZR b (M:=M) l (if q.dq>a.1 then q.dq else a.1,a.2+1) (λx hx=>hq x (jx _ hx)) (by dsimp only;split<;>omega) (by dsimp only;split<;>omega);dsimp only at r2 r3;exact⟨r1,oM,oM,λ_=>r2⟩
  ·rw[dx e];obtain⟨r1,r2,r3,r4⟩:=ZR b (M:=M) l a (λx hx=>hq x (jx _ hx)) h1 h2;refine⟨r1,r2,oM,λhb=> ?_⟩;rcases ku.1 hb with rfl|hb
   ·exact absurd rfl e
   ·exact r4 hb
def yQm {l:List Quote} {s:Int} (hl:l.length<=100) (h:∀q∈l,(1<=q.dq/\q.dq<=250000000)/\(-2000000<=q.dp/\q.dp<=2000000)):
 ((qV l s).2=am->1<=(qV l s).1.dq/\1<=(qV l s).1.count)/\((qV l s).2=ak->(qV l s).1=⟨0,0,0⟩)/\(qV l s).1.fit:=by
 by_cases e:(zN l s).2=am
 ·have hm:=Y2 e;have hb:=h _ hm;have:=ZR (zN l s).1 (M:=250000000) l ((zN l s).1.dq,0) (λq hq=>(h q hq).1) hb.1.1 hb.1.2;have e2:qV l s=(⟨(zN l s).1.dp,(cV l (zN l s).1).1,(cV l (zN l s).1).2⟩,am):=by rw[qV,fk e]
  rw[e2];rw[<- cV]at this;obtain⟨r1,r2,r3,r4⟩:=this;have r4:=r4 hm;dsimp only at r2 r3 r4 ⊢;exact⟨λ_=>⟨r1.1,oM⟩,λx=>(by cases x),⟨Z9,Z9⟩,⟨Z9,Z9⟩,⟨Z9,Z9⟩⟩
 ·have e2:qV l s=(⟨0,0,0⟩,ak):=by rw[qV,dx e]
  rw[e2];exact⟨λx=>(by cases x),λ_=>rfl,⟨Z8,Z8⟩,⟨Z8,Z8⟩,⟨Z8,Z8⟩⟩
def zEn {p:fj} {B:List (List zE)} (h:lu p B):yBf (xJ p B)/\y9c (xJ p B)/\yEq (xJ p B):=by
 have hc:=xQ p;have hlen:=YX p B;have pj:∀k,k<p.count->∀s,s=1\/s=2->OF s (Hr p B k s)/\(Hr p B k s).fit:=λk hk s hs=>by
  obtain⟨L,hL⟩:=z6 (l:=B) (i:=k) (by rw[h.ok.bl];exact hk);have e:B.getD k []=L:=zJ hL;obtain⟨a1,a2,a3⟩:=yEv h hL hs;obtain⟨b1,b2,b3⟩:=yQm (s:=s) (pP ⟨p,B.map yS,k⟩ s) (λq hq=>yTe h hs hq);rw[Hr,e];exact⟨⟨a1,a2,b1,b2⟩,λx hx=>(a3 x hx).2,b3⟩
 have rf:∀b∈xJ p B,∃k,k<p.count/\b=(Hr p B k 1,Hr p B k 2):=λb hb=>by
  rw[xJ]at hb;obtain⟨k,hk,rfl⟩:=oe.1 hb;exact⟨k,zh.1 hk,rfl⟩
 refine⟨⟨λb hb=> ?_,oM⟩,λb hb=> ?_,⟨oM,λb hb=> ?_⟩⟩
 ·obtain⟨k,hk,rfl⟩:=rf b hb;exact⟨(pj k hk 1 (.inl rfl)).1,(pj k hk 2 (.inr rfl)).1⟩
 ·obtain⟨k,hk,rfl⟩:=rf b hb;exact⟨(pj k hk 1 (.inl rfl)).2,(pj k hk 2 (.inr rfl)).2⟩
 ·obtain⟨k,hk,rfl⟩:=rf b hb;have a:=(pj k hk 1 (.inl rfl)).1.2.1;have c:=(pj k hk 2 (.inr rfl)).1.2.1;dsimp only;omega
structure NT (p:fj) (v:Vw):Prop where
 r:yBf v
 f:y9c v
 s:yEq v
 len:v.length=p.count
def Tw {p:fj} {B:List (List zE)} (h:lu p B):NT p (xJ p B):=⟨(zEn h).1,(zEn h).2.1,(zEn h).2.2,YX p B⟩
def yKm {p:fj} {v:Vw} (h:NT p v):Vw.qm v<=510*v.length:=by
 have:∀{v:Vw},(∀b∈v,OF 1 b.1/\OF 2 b.2)->Vw.qm v<=510*v.length:=by
  intro v
  induction v with
  |nil=>intro _;exact mg _
  |cons a v ih=>
   intro h;have ha:=h a jg;have:=ih λb hb=>h b (jx _ hb)
   have h1:=ha.1.2.1;have h2:=ha.2.2.1;rw[Vw.qm]at this ⊢;rw[iT,oR,iY];omega
 exact this h.r.1
@[reducible] def xBz (v:Vw):fw:= .own 180 10 (v.map xM)
@[reducible] def Hk (v:Vw):fw:= .kh 10 (v.map xM)
def F6:gx:=gh N4 (λi=>[oa i.p,.nm 0 0]) (λi=>[zD i.s]) (λi=>i.s.fy i.p i.B/\jo i.p i.B) (λ_=> .agg [.own 1]) (λi=>[zD i.s,xBz (xJ i.p i.B)])
def Tb:gx:=gh wm (λi=>[.nm 0 0,zB i.s,ru 1 (bE i.b)]) (λ_=>[.gone]) (λi=>i.b.length<=1099511627776) (λi=>zB (zS i.s i.b).2) (λ_=>[.gone])
def Ml:gx:=gh Gt (λ_=>[.nm 0 0]) (λg=>W9 g) (λ_=>True) (λ_=> .nm 1 0) (λg=>W9 g)
def Mc:gx:=gh iO (λ_=>[.nm 0 0]) (λm=>BZ m) (λ_=>True) (λ_=> .nm 1 0) (λm=>BZ m)
structure En where
 p:fj
 v:Vw
 q:Int
 R:List (List UInt8)
@[reducible] def O5:Nat:=106
def Rr (e:En) (r l:Nat):fw:= .cells [sV e.p.code,.own 5,zB e.p.tick,zB e.p.low,zB e.p.high,zB e.p.wide,zB e.p.gw,zB e.p.top,zB e.p.least,zB e.p.part,.own 6,.nm 1 0,.nm 2 0,.own l,zB e.q,.own r] O5
structure Es where
 B:List (List zE)
 U:List Int
 W:List (Int×Int)
 q:Int
 R:List (List UInt8)
def Es.en (x:Es) (p:fj):En:=⟨p,xJ p x.B,x.q,x.R⟩
def lU (s:Int) (b:List UInt8):List UInt8:=pf s::b
def Es.X (x:Es) (p:fj) (s:Int) (b:List UInt8):Rz:=wE p x.B x.U x.W s b
def Es.M (x:Es) (p:fj) (s:Int) (b:List UInt8):List VM:=wR 0 (xJ p x.B) (xJ p (x.X p s b).B)
def Es.ed (x:Es) (p:fj) (s:Int) (b:List UInt8):Es:=⟨(x.X p s b).B,(x.X p s b).U,(x.X p s b).W,x.q+(x.M p s b).length,x.R++[lU s b]⟩
structure yx where
 o:iO
 x:Es
 p:fj
 s:Int
 b:List UInt8
def yx.g (i:yx):Gt:=⟨i.o,i.x.W⟩
@[reducible] def yx.ok (i:yx):Prop:=(i.o.fy i.p i.x.B i.x.U/\jo i.p i.x.B)/\i.b.length<=1048576/\(0<=i.s/\i.s<8)/\(0<=i.x.q/\i.x.q<=1000000000000000000)/\i.x.R.length<=1000000
def yx.Y (i:yx):Es:=i.x.ed i.p i.s i.b
def yx.N (i:yx):List I5:=vJ i.x.q (i.x.M i.p i.s i.b)
def yx.O (i:yx):List (Int×fy):=(i.x.X i.p i.s i.b).O
def yx.rows (i:yx):List fw:=[Rr (i.x.en i.p) 4 7,.gone,nk i.g,.gone,G1 i.x.R,.kh 1 (iE i.p.dr),.kh 1 (iE i.p.settle),Hk (xJ i.p i.x.B)]
def edC:gx where
 ι:=yx
 pat:=λi=>[.nm 0 0,zB i.s,ru 1 (bE i.b)]
 pre:=λi=>i.rows
 du:=λi=>i.ok
 alts:=λi=>[{o:=iO,res:=λ_=> .agg [.own 10,.own 11],post:=λo=>[Rr (i.Y.en i.p) 8 9,.gone,nk ⟨o,i.Y.W⟩,.gone,.gone,.kh 1 (iE i.p.dr),.kh 1 (iE i.p.settle),.gone,G1 i.Y.R,Hk (xJ i.p i.Y.B),I1 i.O,M8 i.N],rel:=λo=>o.fy i.p i.Y.B i.Y.U}]
def yRg (i:N4):Prop:=
 ∃(a:fj),Qa a i.p ((zU a)/\fp (du (a.check !=0) (ez (dm (zD i.s)/\aa xM (xJ i.p i.B)=[]/\True)) (∃(c:ia),zD c=zD i.s/\(vS c)/\fp (∃(e:fj),Qa e i.p ((zU e)/\fp (∃(g:Nat),(↑g:Int)=0/\aa xM (ab g (xJ i.p i.B))=[]/\aa zY (aa yS i.B)=aa zY c.fm/\∃(h:Nat->Prop),∃(j:Nat->Nat),h g/\∀(k:Nat),h k->du (decide ((↑k:Int)<(↑e.count:Int))) (((0:Int)<=(0:Int)/\0<(↑(2:Nat):Int))/\∃(l:Int),zF [[dI 1],[dI 2]] (ao 0) 0 1=ar [dI l]/\∃(m:B8),m.inst=(↑k:Int)/\zA m.sd=l/\zD m.s=zD c/\(m.s.fy m.p m.B/\m.B.length<=1000)/\fp (∃(p:tW),Qa p.i.p i.p (aa zY p.i.fm=aa zY (aa yS i.B)/\p.i.inst=(↑k:Int)/\zA p.s=l/\(qD p)/\fp (∃(r:yy),aa zK r.l=aa zK (yC p.i (zA p.s))/\r.s=l/\(wP r)/\fp ((dB)/\∃(t:Int),zF [[dI 1],[dI 2]] (ap.wrap ((0:Int)+(1:Int))).toNat 0 1=ar [dI t]/\∃(u:B8),u.inst=(↑k:Int)/\zA u.sd=t/\zD u.s=zD m.s/\(u.s.fy u.p u.B/\u.B.length<=1000)/\fp (∃(w:tW),Qa w.i.p i.p (aa zY w.i.fm=aa zY (aa yS i.B)/\w.i.inst=(↑k:Int)/\zA w.s=t/\(qD w)/\fp (∃(y:yy),aa zK y.l=aa zK (yC w.i (zA w.s))/\y.s=t/\(wP y)/\fp (((aa xM (ab k (xJ i.p i.B))).length+1)*(112:Nat)<=(140737488355328:Nat)/\∃(ma:Nat),(↑ma:Int)=ap.wrap ((↑k:Int)+1)/\aa xM (ab ma (xJ i.p i.B))=aa xM (ab k (xJ i.p i.B))++[[D.ro 3 (aa my (mN m)),dI ((qV r.l r.s).fst.dp),dI ((qV r.l r.s).fst.dq),dI ((qV r.l r.s).fst.count),D.v (.bool (qV r.l r.s).snd),D.ro 3 (aa my (mN u)),dI ((qV y.l y.s).fst.dp),dI ((qV y.l y.s).fst.dq),dI ((qV y.l y.s).fst.count),D.v (.bool (qV y.l y.s).snd)]]/\dm (ag 6 (aa zY (aa yS i.B)))/\h ma/\j ma<j k/\zD u.s=zD c/\dm (af (Sx.V.agg [V.d hY]).cl 89)/\Q5 i.p (dm (ag 1 (iE i.p.dr)))))))))))) (ez (zD i.s=zD c/\aa xM (xJ i.p i.B)=aa xM (ab k (xJ i.p i.B))/\True))))))))
def y9o (i:wm):Prop:=
 ∃(iC:wm),iC.s=i.s/\bE iC.b=bE i.b/\iC.b.length<=1099511627776/\∀(o:Unit),True->∃(o:Unit),(zS i.s i.b).snd=(zS iC.s iC.b).snd/\True
def y0x (g:Gt):Prop:=
 ∃(o:Unit),fw.sv iO 5 yN g.m=kF g.m/\dm (xP g.W)/\True
def y5e (m:iO):Prop:=
 ∃(o:Unit),dm (sb m.p.code)/\dm m.p.tick/\dm m.p.low/\dm m.p.high/\dm m.p.wide/\dm m.p.gw/\dm m.p.top/\dm m.p.least/\dm m.p.part/\zD m.s=yN m 1/\dm (zZ m.used)/\ag 1 (iE m.p.dr)=yN m 3/\ag 1 (iE m.p.settle)=yN m 4/\True
def MW (a:yx):Prop:=Qi a.p (True)
def MP (a:yx):=(aa xM (xJ a.p (a.x.X a.p a.s a.b).B))
def z8u (a:yx) (b:iO) (c:Gt) (d:List (List UInt8)) (e:Dg):Prop:=∃(f:N4),Qa f.p a.p (zD f.s=zD b.s/\(f.s.fy f.p f.B/\jo f.p f.B)/\fp (∃(h:JL),aa xM h.v=aa xM (xJ a.p a.x.B)/\aa xM h.w=aa xM (xJ f.p f.B)/\h.seq=a.x.q/\(ae h.v=ae h.w/\((-4000000000000000000)<=h.seq/\h.seq<=4000000000000000000)/\h.v.qm<=100000000/\h.w.qm<=100000000/\ae h.v<=1000000)/\fp (∃(k:iO),Qc a.p (a.x.q+(↑(a.x.M a.p a.s a.b).length:Int)=ap.wrap (a.x.q+(↑(aa xW (vJ h.seq (wR 0 h.v h.w))).length:Int))/\Qb k.p b.p (zD k.s=zD f.s/\Qz k b (xP (a.x.X a.p a.s a.b).W=xP c.W/\Q4 a.p (aa kq (a.x.R++[lU a.s a.b])=aa kq a.x.R++[[D.ro 1 (bE d.flatten)]]/\ag 10 (MP a)=ag 10 (aa xM (xJ f.p f.B))/\aa kG a.O=aa kG e.X.O/\aa xW a.N=aa xW (vJ h.seq (wR 0 h.v h.w))/\k.fy a.p (a.x.X a.p a.s a.b).B (a.x.X a.p a.s a.b).U)))))))
def z8d (a:yx) (b:iO) (c:Gt) (d:List (List UInt8)) (e:Dg):Prop:=(MW a)/\z8u a b c d e
def z7i (a:yx) (b:Gt) (c:List (List UInt8)) (d:Dg):Prop:=(MW a)/\∃(e:iO),Qb e.p b.m.p (zD e.s=zD b.m.s/\Qz e b.m (True/\fp (z8d a e b c d)))
def TY (a:Dg):Prop:=(a.g.m.fy a.p a.B a.U/\jo a.p a.B)/\a.b.length<=1099511627776/\a.X=wE a.p a.B a.U a.g.W a.s a.b
def Ved (i:yx):Prop:=
 True/\True/\∃(a:List (List UInt8)),aa kq a=[[D.ro 1 [[D.v (.int .u8 (aq.wrap i.s))]]],[D.ro 1 (bE i.b)]]/\(1<=a.flatten.length/\a.flatten.length<=1099511627776/\a.length<=1000)/\fp (True/\True/\((aa kq i.x.R).length+1)*(24:Nat)<=(140737488355328:Nat)/\∃(c:Dg),c.s=i.s/\bE c.b=bE i.b/\nk c.g=nk i.g/\(TY c)/\∀(d:iO),d.fy c.p c.X.B c.X.U->(∃(e:Gt),kF e.m=kF d/\xP e.W=xP c.X.W/\True/\fp ((MW i)/\(∃(g:iO),Qb g.p e.m.p (zD g.s=zD e.m.s/\Qz g e.m (True/\fp ((MW i)/\(z8u i g e a c)/\z8d i g e a c))))/\z7i i e a c))/\True/\(MW i)/\∃(e:Gt),kF e.m=kF d/\xP e.W=xP c.X.W/\True/\fp (z7i i e a c))
end Sx
