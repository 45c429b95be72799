/- Texts of ours. No condition. -/
import Derived.Test.YtgmmlhddihaocaaGreatS12
set_option linter.all false
open List renaming map->aa,take->ab,drop->ac,length->ae
open Sx.fi renaming jc->af,cells->ag,own->aj
open Bool renaming false->ak,true->am
open Int renaming toNat->ao
open Go.IntKind renaming i64->ap,u8->aq
open Option renaming some->ar
namespace Sx
set_option maxRecDepth 100000
open Go Cv Go.Proofs
def X1 (a:Nat) (b:Nat) (c:zw) (d:Nat->Prop) (e:Nat->Nat):Prop:=(↑a:Int)=ap.wrap ((↑b:Int)+1)/\dj ((zU c.l c.s).fst.dk)/\dj ((zU c.l c.s).fst.dr)/\dj ((zU c.l c.s).fst.a.inst)/\dj ((zU c.l c.s).fst.a.side)/\dj ((zU c.l c.s).fst.b.inst)/\dj ((zU c.l c.s).fst.b.side)/\d a/\e a<e b/\True
def qZ (a:Nat) (b:zw):=(dR (ab a b.l) (zU b.l b.s).fst)
def yUf (i:zw):Prop:=
 ∃(a:zw),aa zJ a.l=aa zJ i.l/\a.s=i.s/\(dU a)/\∀(b:Unit),True->dq (!(zU a.l a.s).snd) (∃(c:Unit),(qN i.l i.s).fst.dk=0/\(qN i.l i.s).fst.dr=0/\(qN i.l i.s).fst.count=0/\(qN i.l i.s).snd=ak/\True) (∃(c:Nat),(qZ c i).fst=(zU a.l a.s).fst.dr/\(qZ c i).snd=0/\(↑c:Int)=0/\(zU i.l i.s).fst.dk=(zU a.l a.s).fst.dk/\(zU i.l i.s).fst.dr=(zU a.l a.s).fst.dr/\(zU i.l i.s).fst.a.inst=(zU a.l a.s).fst.a.inst/\(zU i.l i.s).fst.a.side=(zU a.l a.s).fst.a.side/\(zU i.l i.s).fst.b.inst=(zU a.l a.s).fst.b.inst/\(zU i.l i.s).fst.b.side=(zU a.l a.s).fst.b.side/\∃(d:Nat->Prop),∃(e:Nat->Nat),d c/\∀(f:Nat),d f->dq (decide ((↑f:Int)<(uE i))) ((0<=(↑f:Int)/\(↑f:Int)<(uE i))/\∃(g:Int),∃(h:Int),∃(j:Int),∃(k:Int),∃(l:Int),∃(m:Int),zD (aa zJ i.l) (↑f:Int).toNat 0 6=ar [dI g,dI h,dI j,dI k,dI l,dI m]/\dq (g==(zU i.l i.s).fst.dk) (∃(n:Nat),((qZ n i).fst=if h>(qZ f i).fst then h else(qZ f i).fst)/\(qZ n i).snd=ap.wrap ((qZ f i).snd+1)/\X1 n f i d e) (∃(n:Nat),(qZ n i).fst=(qZ f i).fst/\(qZ n i).snd=(qZ f i).snd/\X1 n f i d e)) (∃(g:Unit),(qN i.l i.s).fst.dk=(zU i.l i.s).fst.dk/\(qN i.l i.s).fst.dr=(qZ f i).fst/\(qN i.l i.s).fst.count=(qZ f i).snd/\(qN i.l i.s).snd=am/\True))
def yIi (i:HX):Prop:=
 True/\((aa yK i.d.out).length+1)*(56:Nat)<=(140737488355328:Nat)/\∃(a:Unit),i.d.seq+(↑(1:Nat):Int)=ap.wrap (i.d.seq+1)/\aa yK (i.d.out++wT i.d.seq [i.m])=aa yK i.d.out++[[dI (ap.wrap (i.d.seq+1)),dI (↑i.m.inst:Int),dI i.m.side,dI i.m.l.dk,dI i.m.l.dr,dI i.m.l.count,D.v (.bool i.m.imp)]]/\True
def jD (a:Ar) (b:vw):=(a.d.out++wT a.d.seq b.M)
def sB (a:Ar):Prop:=ag [V.own 4,V.d (dI a.b.imp.dk),V.d (dI a.b.imp.dr),V.d (dI a.b.imp.count),V.d (D.v (.bool a.b.has))] 179=ag [V.own 4,V.d (dI a.b.imp.dk),V.d (dI a.b.imp.dr),V.d (dI a.b.imp.count),V.d (D.v (.bool a.b.has))] 179/\dj (af 3 (aa kx a.b.levels))/\dj (ag [V.own 2,V.d (dI a.a.imp.dk),V.d (dI a.a.imp.dr),V.d (dI a.a.imp.count),V.d (D.v (.bool a.a.has))] 179)/\dj (af 3 (aa kx a.a.levels))
def XK (a:Ar) (b:vw):Prop:=ag [V.d (dI (a.d.seq+(↑b.M.length:Int))),V.own 7] (266:TypeId)=ag [V.d (dI (a.d.seq+(↑b.M.length:Int))),V.own 7] (266:TypeId)/\dj (aj NK 7 (aa yK (jD a b)))/\sB a
def rK (a:Bool->Prop) (b:Bool) (c:Ar) (d:vw):Prop:=a b/\XK c d
def Xv (a:Ar) (b:Int) (c:Int) (d:Bool->Prop) (e:vw):Prop:=∃(f:I3),f.side=a.s/\f.x=b/\f.y=c/\True/\∀(g:Unit),True->∃(h:Bool),h=b9 f.side f.x f.y/\rK d h a e
def TU (a:Bool->Prop) (b:Ar) (c:vw):Prop:=∃(d:Bool),d=am/\rK a d b c
def Yj (a:Lv->Prop) (b:Lv) (c:Ar) (d:vw):Prop:=a b/\XK c d
def Xr (a:vw->Prop) (b:vw) (c:vw->Nat) (d:vw) (e:Ar):Prop:=a b/\c b<c d/\sB e
def Ys (a:Ar) (b:vw) (c:HX) (d:vw->Prop) (e:vw->Nat) (f:vw):Prop:=a.d.seq+(↑b.M.length:Int)=c.d.seq+(↑(1:Nat):Int)/\aa yK (jD a b)=aa yK (c.d.out++wT c.d.seq [c.m])/\Xr d b e f a
def Yf (a:te->Prop) (b:te) (c:Ar):Prop:=a b/\sB c
def mM (a:HX):Prop:=(-4611686018427387904)<=a.d.seq/\a.d.seq+(↑(1:Nat):Int)<=4611686018427387904/\a.d.out.length+(1:Nat)<=(1000000000:Nat)
def cQ (a:vw):=(↑(aa kx a.y).length:Int)
def cB (a:vw):Prop:=(0:Int)<=(0:Int)/\0<(cQ a)
def g7 (a:vw):=(↑(aa kx a.x).length:Int)
def m4 (a:vw):Prop:=(0:Int)<=(0:Int)/\0<(g7 a)
def cI (a:Ar):=(a.d.out++wT a.d.seq (wK a.n a.s a.a a.b))
def cH (a:Ar):=(↑(wK a.n a.s a.a a.b).length:Int)
def yLb (i:Ar):Prop:=
 ∃(a:vw),aa kx a.x=aa kx i.a.levels/\aa kx a.y=aa kx i.b.levels/\i.d.seq+(↑a.M.length:Int)=i.d.seq/\aa yK (jD i a)=aa yK i.d.out/\∃(b:vw->Prop),∃(c:vw->Nat),b a/\∀(d:vw),b d->dq (decide (ap.wrap ((g7 d)+(cQ d))>0)) (∃(e:Bool),∃(f:Bool->Prop),dq ((cQ d)==0) (TU f i d) (dq (decide ((g7 d)>0)) ((m4 d)/\∃(g:Int),zD (aa kx d.x) (ao 0) 0 1=ar [dI g]/\(cB d)/\∃(h:Int),zD (aa kx d.y) (ao 0) 0 1=ar [dI h]/\Xv i g h f d) (∃(g:Bool),g=ak/\rK f g i d))/\∀(g:Bool),f g->dq g ((m4 d)/\∃(h:Int),zD (aa kx d.x) (ao 0) 0 1=ar [dI h]/\∃(j:HX),(↑j.m.inst:Int)=(↑i.n:Int)/\j.m.side=i.s/\j.m.l.dk=h/\j.m.l.dr=0/\j.m.l.count=0/\j.m.imp=ak/\j.d.seq=i.d.seq+(↑d.M.length:Int)/\aa yK j.d.out=aa yK (jD i d)/\(mM j)/\∀(k:Unit),True->((0:Int)<=(1:Int)/\1<=(g7 d))/\∃(l:vw),aa kx l.x=ac (ao 1) (aa kx d.x)/\aa kx l.y=aa kx d.y/\Ys i l j b c d) (∃(h:Bool),∃(j:Bool->Prop),dq ((g7 d)==0) (TU j i d) ((cB d)/\∃(k:Int),zD (aa kx d.y) (ao 0) 0 1=ar [dI k]/\(m4 d)/\∃(l:Int),zD (aa kx d.x) (ao 0) 0 1=ar [dI l]/\Xv i k l j d)/\∀(k:Bool),j k->dq k ((cB d)/\∃(l:Int),∃(m:Int),∃(n:Int),zD (aa kx d.y) (ao 0) 0 3=ar [dI l,dI m,dI n]/\∃(p:HX),(↑p.m.inst:Int)=(↑i.n:Int)/\p.m.side=i.s/\p.m.l.dk=l/\p.m.l.dr=m/\p.m.l.count=n/\p.m.imp=ak/\p.d.seq=i.d.seq+(↑d.M.length:Int)/\aa yK p.d.out=aa yK (jD i d)/\(mM p)/\∀(q:Unit),True->((0:Int)<=(1:Int)/\1<=(cQ d))/\∃(r:vw),aa kx r.x=aa kx d.x/\aa kx r.y=ac (ao 1) (aa kx d.y)/\Ys i r p b c d) (∃(l:te),l.seq=i.d.seq+(↑d.M.length:Int)/\aa yK l.out=aa yK (jD i d)/\∃(m:te->Prop),(∃(n:Bool),∃(p:Bool->Prop),((m4 d)/\∃(q:Int),∃(r:Int),∃(s:Int),zD (aa kx d.x) (ao 0) 0 3=ar [dI q,dI r,dI s]/\(cB d)/\∃(t:Int),∃(u:Int),∃(v:Int),zD (aa kx d.y) (ao 0) 0 3=ar [dI t,dI u,dI v]/\∃(w:Bool),w=!(q==t && (r==u && (s==v && am)))/\p w/\dj (ag [V.d (dI l.seq),V.own 9] (266:TypeId))/\dj (aj NK 7 (aa yK l.out))/\sB i)/\∀(q:Bool),p q->dq q ((cB d)/\∃(r:Int),∃(s:Int),∃(t:Int),zD (aa kx d.y) (ao 0) 0 3=ar [dI r,dI s,dI t]/\∃(u:HX),(↑u.m.inst:Int)=(↑i.n:Int)/\u.m.side=i.s/\u.m.l.dk=r/\u.m.l.dr=s/\u.m.l.count=t/\u.m.imp=ak/\u.d.seq=l.seq/\aa yK u.d.out=aa yK l.out/\(mM u)/\∀(v:Unit),True->∃(w:te),w.seq=u.d.seq+(↑(1:Nat):Int)/\aa yK w.out=aa yK (u.d.out++wT u.d.seq [u.m])/\Yf m w i) (∃(r:te),r.seq=l.seq/\aa yK r.out=aa yK l.out/\Yf m r i))/\∀(n:te),m n->((0:Int)<=(1:Int)/\1<=(g7 d))/\((0:Int)<=(1:Int)/\1<=(cQ d))/\∃(p:vw),aa kx p.x=ac (ao 1) (aa kx d.x)/\aa kx p.y=ac (ao 1) (aa kx d.y)/\i.d.seq+(↑p.M.length:Int)=n.seq/\aa yK (jD i p)=aa yK n.out/\Xr b p c d i))) (∃(e:Bool),∃(f:Bool->Prop),dq (!(i.a.imp.dk==i.b.imp.dk && (i.a.imp.dr==i.b.imp.dr && (i.a.imp.count==i.b.imp.count && am)))) (TU f i d) (∃(g:Bool),g=!i.a.has==i.b.has/\rK f g i d)/\∀(g:Bool),f g->dq g (∃(h:Lv),h.dk=i.b.imp.dk/\h.dr=i.b.imp.dr/\h.count=i.b.imp.count/\∃(j:Lv->Prop),dq (!i.b.has) (∃(k:Lv),k.dk=0/\k.dr=0/\k.count=0/\Yj j k i d) (∃(k:Lv),k.dk=h.dk/\k.dr=h.dr/\k.count=h.count/\Yj j k i d)/\∀(k:Lv),j k->∃(l:HX),(↑l.m.inst:Int)=(↑i.n:Int)/\l.m.side=i.s/\l.m.l.dk=k.dk/\l.m.l.dr=k.dr/\l.m.l.count=k.count/\l.m.imp=am/\l.d.seq=i.d.seq+(↑d.M.length:Int)/\aa yK l.d.out=aa yK (jD i d)/\(mM l)/\∀(m:Unit),True->∃(n:Unit),i.d.seq+(cH i)=l.d.seq+(↑(1:Nat):Int)/\aa yK (cI i)=aa yK (l.d.out++wT l.d.seq [l.m])/\True) (∃(h:Unit),i.d.seq+(cH i)=i.d.seq+(↑d.M.length:Int)/\aa yK (cI i)=aa yK (jD i d)/\True))
def Yb (a:Ar):Prop:=(-4611686018427387904)<=a.d.seq/\a.d.seq+(↑(a.a.levels.length+a.b.levels.length+1):Int)<=4611686018427387904/\a.d.out.length+(a.a.levels.length+a.b.levels.length+1)<=1000000000
def pT (a:JB) (b:Nat):=([]++wT a.seq (wD 0 (ab b a.v) (ab b a.w)))
def TQ (a:Nat) (b:JB):=(↑(wD 0 (ab a b.v) (ab a b.w)).length:Int)
def rR (a:JB):=(↑(aa yG a.v).length:Int)
def yVa (i:JB):Prop:=
 dq ((rR i) !=(↑(aa yG i.w).length:Int)) (∃(a:Unit),aa yK (wT i.seq (wD 0 i.v i.w))=[]/\True) (∃(a:Nat),(↑a:Int)=0/\i.seq+(TQ a i)=i.seq/\aa yK (pT i a)=[]/\∃(b:Nat->Prop),∃(c:Nat->Nat),b a/\∀(d:Nat),b d->dq (decide ((↑d:Int)<(rR i))) (((0:Int)<=(0:Int)/\0<(↑(2:Nat):Int))/\∃(e:Int),zD [[dI 1],[dI 2]] (ao 0) 0 1=ar [dI e]/\(0<=(↑d:Int)/\(↑d:Int)<(rR i))/\∃(f:List (List D)),∃(g:Int),∃(h:Int),∃(j:Int),∃(k:Bool),zD (aa yG i.v) (↑d:Int).toNat 0 5=ar [D.ro 3 f,dI g,dI h,dI j,D.v (.bool k)]/\(0<=(↑d:Int)/\(↑d:Int)<(↑(aa yG i.w).length:Int))/\∃(l:List (List D)),∃(m:Int),∃(n:Int),∃(p:Int),∃(q:Bool),zD (aa yG i.w) (↑d:Int).toNat 0 5=ar [D.ro 3 l,dI m,dI n,dI p,D.v (.bool q)]/\∃(r:Ar),(↑r.n:Int)=(↑d:Int)/\r.s=e/\aa kx r.a.levels=f/\r.a.imp.dk=g/\r.a.imp.dr=h/\r.a.imp.count=j/\r.a.has=k/\aa kx r.b.levels=l/\r.b.imp.dk=m/\r.b.imp.dr=n/\r.b.imp.count=p/\r.b.has=q/\r.d.seq=i.seq+(TQ d i)/\aa yK r.d.out=aa yK (pT i d)/\(Yb r)/\∀(s:Unit),True->(fV)/\∃(t:Int),zD [[dI 1],[dI 2]] (ap.wrap ((0:Int)+(1:Int))).toNat 0 1=ar [dI t]/\(0<=(↑d:Int)/\(↑d:Int)<(rR i))/\∃(u:List (List D)),∃(v:Int),∃(w:Int),∃(x:Int),∃(y:Bool),zD (aa yG i.v) (↑d:Int).toNat 5 5=ar [D.ro 3 u,dI v,dI w,dI x,D.v (.bool y)]/\(0<=(↑d:Int)/\(↑d:Int)<(↑(aa yG i.w).length:Int))/\∃(z:List (List D)),∃(iW:Int),∃(lu:Int),∃(jg:Int),∃(km:Bool),zD (aa yG i.w) (↑d:Int).toNat 5 5=ar [D.ro 3 z,dI iW,dI lu,dI jg,D.v (.bool km)]/\∃(iB:Ar),(↑iB.n:Int)=(↑d:Int)/\iB.s=t/\aa kx iB.a.levels=u/\iB.a.imp.dk=v/\iB.a.imp.dr=w/\iB.a.imp.count=x/\iB.a.has=y/\aa kx iB.b.levels=z/\iB.b.imp.dk=iW/\iB.b.imp.dr=lu/\iB.b.imp.count=jg/\iB.b.has=km/\iB.d.seq=r.d.seq+(cH r)/\aa yK iB.d.out=aa yK (cI r)/\(Yb iB)/\∀(o5:Unit),True->∃(jo:Nat),(↑jo:Int)=ap.wrap ((↑d:Int)+1)/\i.seq+(TQ jo i)=iB.d.seq+(cH iB)/\aa yK (pT i jo)=aa yK (cI iB)/\b jo/\c jo<c d/\dj (ag [V.own 2] 89)/\dj (af 10 (aa yG i.w))/\dj (ag [V.own 0] 89)/\dj (af 10 (aa yG i.v))) (∃(e:Unit),aa yK (wT i.seq (wD 0 i.v i.w))=aa yK (pT i d)/\True))
open Classical
def zQf {l:List Quote} {k:Nat} {q:Quote} (b:Quote) (h:l[k]? =ar q):dR (l.take (k+1)) b=if q.dk=b.dk then(if q.dr>(dR (l.take k) b).1 then q.dr else(dR (l.take k) b).1,(dR (l.take k) b).2+1)else dR (l.take k) b:=by
 rw[dR,tb,h,Eb,I7,EL,List.foldl_nil];rfl
def zZp (b:Quote) (l:List Quote):∀k,k<=l.length->0<=(dR (l.take k) b).2/\(dR (l.take k) b).2<=k
 |0,_=>⟨by rw[Hu];exact yp 0,by rw[Hu];exact yp 0⟩
 |k+1,h=>by
  obtain⟨q,hq⟩:=z6 (l:=l) (i:=k) oM;have:=zZp b l k oM;rw[zQf b hq];split
  ·dsimp only;constructor<;>omega
  ·constructor<;>omega
def y6i (i:zw) (h:JG.dq i):yUf i:=by
 obtain⟨hs,hl⟩:(i.s=1\/i.s=2)/\i.l.length<=1000000:=h;have Aj:(i.l.map zJ).length=i.l.length:=im _;unfold yUf qZ X1 dU uE dI;rw[Aj];refine⟨i,rfl,rfl,⟨hs,hl⟩,λ_ _=>Cv.dq.mk (λc=> ?_) (λc=> ?_)⟩
 ·have e:qN i.l i.s=(⟨0,0,0⟩,ak):=by rw[qN,fb (by simpa using c)]
  rw[e];exact⟨(),gu⟩
 have e:qN i.l i.s=(⟨(zU i.l i.s).1.dk,(dR i.l (zU i.l i.s).1).1,(dR i.l (zU i.l i.s).1).2⟩,am):=by rw[qN,fh (by simpa using c)]
 rw[e];generalize (zU i.l i.s).1=b;refine⟨0,gr ⟨rfl,λk=>k<=i.l.length,λk=>i.l.length-k,mz _,λk hk=>zH (λgv=> ?_) (λgv=> ?_)⟩⟩
 ·obtain⟨q,hq⟩:=z6 (l:=i.l) (i:=k) oM;have st:=zQf b hq;have bd:=zZp b i.l k hk;have hk:k<=i.l.length:=hk;refine⟨⟨oM,oM⟩,q.dk,q.dr,q.a.inst,q.a.side,q.b.inst,q.b.side,ju hq (by simp[zJ]) rfl,Cv.dq.mk (λe=>⟨k+1,?_⟩) (λe=>⟨k+1,?_⟩)⟩
  ·rw[st,fh (by simpa using e)];exact⟨rfl,by dsimp only;rw[iA (by omega)],rf oM,yj ⟨rfl,Z9,Z9,trivial⟩⟩
  ·rw[st,fb (by simpa using e)];exact⟨rfl,rfl,rf oM,yj ⟨rfl,Z9,Z9,trivial⟩⟩
 ·have hk:k<=i.l.length:=hk;obtain rfl:k=i.l.length:=by omega
  rw[BJ];exact⟨(),gu⟩
def yRz:JG.ok Tryz.prog 95:=ib mixed (dx z3f fj) 0 (λ_=>[]) (λi=>y0f i) [] Tryz.func95 y6i
def Yr (p:ff) (B:List (List zI)):(yO p B).length=p.count:=by rw[yO,im,List.length_range]
def yEo (p:ff) (B:List (List zI)) {j:Nat} (h:j<p.count):(yO p B)[j]? =ar (Hn p B j 1,Hn p B j 2):=by
 rw[yO,vc,KT h];rfl
def yIr (a b:Lv):(a.dk==b.dk && (a.dr==b.dr && (a.count==b.count && am)))=decide (a=b):=by
 rw[Hv,decide_eq_true_iff];obtain⟨p,q,c⟩:=a;obtain⟨p2,q2,c2⟩:=b;simp
def Ur {v:Vw} {k:Nat} {b:Sd×Sd} (h:v[k]? =ar b):zD (v.map yG) k 0 10=ar [D.ro 3 (b.1.levels.map kx),.v (.int .i64 b.1.imp.dk),.v (.int .i64 b.1.imp.dr),.v (.int .i64 b.1.imp.count),.v (.bool b.1.has),.ro 3 (b.2.levels.map kx),.v (.int .i64 b.2.imp.dk),.v (.int .i64 b.2.imp.dr),.v (.int .i64 b.2.imp.count),.v (.bool b.2.has)]/\
 zD (v.map yG) k 0 5=ar [D.ro 3 (b.1.levels.map kx),.v (.int .i64 b.1.imp.dk),.v (.int .i64 b.1.imp.dr),.v (.int .i64 b.1.imp.count),.v (.bool b.1.has)]/\
 zD (v.map yG) k 5 5=ar [D.ro 3 (b.2.levels.map kx),.v (.int .i64 b.2.imp.dk),.v (.int .i64 b.2.imp.dr),.v (.int .i64 b.2.imp.count),.v (.bool b.2.has)]:=
 ⟨ju h (by simp[yG]) rfl,ju h (by simp[yG]) rfl,ju h (by simp[yG]) rfl⟩
def Wm (q:Int):∀(A B:List VM),wT q (A++B)=wT q A++wT (q+A.length) B
 |[],B=>by simp[wT]
 |a::A,B=>by
  rw[uc,wT,wT,Wm,iJ,uc];congr 3;omega
def SH (d:te) (A B:List VM):(d.add A).add B=d.add (A++B):=by
 rw[te.add,te.add,te.add,Wm,iv,jh];congr 1;dsimp only;omega
def yWt (i:HX) (h:FX.dq i):yIi i:=by
 obtain⟨h1,h2,h3⟩:i.d.ok 1:=h;unfold yIi dI;have e:ap.wrap (i.d.seq+1)=i.d.seq+1:=iA oM;rw[e];exact⟨trivial,by rw[im];omega,(),rfl,by rw[jr];rfl,trivial⟩
def yHf:FX.ok Tryz.prog 200:=ib mixed fj 0 (λ_=>[]) (λ_=>[]) [] Tryz.func200 yWt
def rU {s:Int}:∀(k:Nat) (X Y:List Lv),(v7 s k X Y).length<=k
 |0,X,Y=>by rw[v7];exact lk 0
 |k+1,[],[]=>by rw[v7];exact mz _
 |k+1,x::X,[]=>by rw[v7,iJ];have:=rU (s:=s) k X [];omega
 |k+1,[],y::Y=>by rw[v7,iJ];have:=rU (s:=s) k [] Y;omega
 |k+1,x::X,y::Y=>by
  have h1:=rU (s:=s) k X (y::Y);have h2:=rU (s:=s) k (x::X) Y;have h3:=rU (s:=s) k X Y;rw[v7];split
  ·rw[iJ];omega
  split
  ·rw[iJ];omega
  rw[iv];split
  ·simp only[ua];omega
  ·simp only[AN];omega
def ZB (n:Nat) (s:Int) (a b:Sd):(wK n s a b).length<=a.levels.length+b.levels.length+1:=by
 have:=rU (s:=s) (a.levels.length+b.levels.length) a.levels b.levels;rw[wK,iv,im];split
 ·rw[AN];omega
 ·simp only[ua];omega
def VQ:∀(n j:Nat) {v w:Vw} {a b:Sd×Sd},v[j]? =ar a->w[j]? =ar b->wD n (v.take (j+1)) (w.take (j+1))=wD n (v.take j) (w.take j)++(wK (n+j) 1 a.1 b.1++wK (n+j) 2 a.2 b.2)
 |n,0,x::v,y::w,a,b,h1,h2=>by
  obtain rfl:x=a:=by simpa using h1
  obtain rfl:y=b:=by simpa using h2
  simp[wD]
 |n,j+1,x::v,y::w,a,b,h1,h2=>by
  have:=VQ (n+1) j (v:=v) (w:=w) (a:=a) (b:=b) (by simpa using h1) (by simpa using h2);rw[vo,vo,vo,vo,wD,wD,this,jh,jh,jh,CH n 1 j,EI 1 j]
 |_,0,[],_,_,_,h1,_=>by simp at h1
 |_,j+1,[],_,_,_,h1,_=>by simp at h1
 |_,0,_::_,[],_,_,_,h2=>by simp at h2
 |_,j+1,_::_,[],_,_,_,h2=>by simp at h2
def TG {v:Vw} {j:Nat} {a:Sd×Sd} (h:v[j]? =ar a):Vw.pn (v.take (j+1))=Vw.pn (v.take j)+(a.1.levels.length+a.2.levels.length):=by
 rw[Vw.pn,Vw.pn,tb,h,Eb,jr,MW];simp
def yCn (v:Vw) (j:Nat):Vw.pn (v.take j)<=Vw.pn v:=by
 conv=>rhs;rw[<- BK j v]
 rw[Vw.pn,Vw.pn,jr,MW];omega
def yKw (v w:Vw):∀j,j<=v.length->j<=w.length->(wD 0 (v.take j) (w.take j)).length<=Vw.pn (v.take j)+Vw.pn (w.take j)+2*j
 |0,_,_=>by rw[Hu,wD];exact mz _;simp
 |j+1,h1,h2=>by
  obtain⟨a,ha⟩:=z6 (l:=v) (i:=j) oM;obtain⟨b,hb⟩:=z6 (l:=w) (i:=j) oM;have:=yKw v w j oM oM;have s1:=ZB (0+j) 1 a.1 b.1;have s2:=ZB (0+j) 2 a.2 b.2;rw[VQ 0 j ha hb,TG ha,TG hb,iv,iv];omega
def mE (q:Int):∀M:List VM,(wT q M).length=M.length
 |[]=>rfl
 |m::M=>by rw[wT,iJ,mE,iJ]
def Nb (q:Int) (M:List VM) (m:VM):q+((M++[m]).length:Nat)=q+(M.length:Nat)+((1:Nat):Int):=by
 rw[iv,AN];omega
def Na (o:List tY) (q:Int) (M:List VM) (m:VM):(o++wT q (M++[m])).map yK=((o++wT q M)++wT (q+(M.length:Nat)) [m]).map yK:=by rw[Wm,jh]
def DF (x:Lv) (X:List Lv):zD ((x::X).map kx) 0 0 1=ar [D.v (.int .i64 x.dk)]/\zD ((x::X).map kx) 0 0 3=ar [D.v (.int .i64 x.dk),.v (.int .i64 x.dr),.v (.int .i64 x.count)]:=⟨rfl,rfl⟩
def yJc (s:Int) (k:Nat):v7 s k [] []=[]:=by cases k<;>rw[v7]
def y0c (i:Ar) (h:FY.dq i):yLb i:=by
 obtain⟨d,n,s,⟨al,ai,ah⟩,⟨bl,bi,bh⟩⟩:=i;obtain⟨h1,h2,h3⟩:te.ok d (al.length+bl.length+1):=h;unfold yLb Yf Ys Xr Yj TU Xv rK XK sB jD cH cI m4 g7 cB cQ mM dI;refine⟨⟨al,bl,[]⟩,rfl,rfl,by simp,by simp[wT],λj=>∃k,j.x.length+j.y.length<=k/\(v7 s (al.length+bl.length) al bl).map (λl=>(⟨n,s,l,ak⟩:VM))=j.M++(v7 s k j.x j.y).map (λl=>(⟨n,s,l,ak⟩:VM))/\k+j.M.length<=al.length+bl.length,λj=>j.x.length+j.y.length,⟨al.length+bl.length,lk _,rfl,lk _⟩,?_⟩;rintro⟨x,y,M⟩ ⟨k,hk,hM,hl⟩;dsimp only at hk hM hl ⊢;have hx:(x.map kx).length=x.length:=im _;have hy:(y.map kx).length=y.length:=im _;have Nf:te.ok ⟨d.seq+(M.length:Nat),d.out++wT d.seq M⟩ 1:=⟨Z9,Z9,by dsimp only;rw[iv,mE];omega⟩
 rw[hx,hy,iA (by omega)];refine zH (λc=> ?_) (λc=> ?_)
 ·obtain⟨k',rfl⟩:∃k',k=k'+1:=⟨k-1,oM⟩
  rcases x with _|⟨a,X⟩
  ·rcases y with _|⟨b,Y⟩
   ·exact absurd c (by simp)
   refine⟨ak,λt=>t=ak,Cv.dq.mk (λe=> ?_) (λ_=>Cv.dq.mk (λe=>absurd e (by simp)) (λ_=>⟨ak,rfl,rfl,gu⟩)),?_⟩
   ·exfalso;simp at e;omega
   rintro _ rfl;refine Cv.dq.mk (λc=>absurd c Z8) (λ_=>⟨ak,λt=>t=am,Cv.dq.mk (λ_=>⟨am,rfl,rfl,gu⟩) (λe=>absurd e (by simp)),?_⟩);rintro _ rfl;refine Cv.dq.mk (λ_=> ?_) (λc=>absurd c Z8);rw[iJ]at hk;refine⟨⟨Z8,by rw[iJ];omega⟩,b.dk,b.dr,b.count,(DF b Y).2,⟨_,⟨n,s,b,ak⟩⟩,rfl,rfl,rfl,rfl,rfl,rfl,rfl,rfl,Nf,λ_ _=>⟨⟨Z8,by rw[iJ];omega⟩,⟨[],Y,M++[⟨n,s,b,ak⟩]⟩,rfl,rfl,Nb _ _ _,Na _ _ _ _,⟨k',Z9,?_,by dsimp only;rw[iv,AN];omega⟩,by dsimp only;rw[iJ];omega,gu⟩⟩;rw[hM,v7,jx,jh];rfl
  rcases y with _|⟨b,Y⟩
  ·refine⟨ak,λt=>t=am,Cv.dq.mk (λ_=>⟨am,rfl,rfl,gu⟩) (λe=>absurd e (by simp)),?_⟩;rintro _ rfl;refine Cv.dq.mk (λ_=> ?_) (λc=>absurd c Z8);rw[iJ]at hk;refine⟨⟨Z8,by rw[iJ];omega⟩,a.dk,(DF a X).1,⟨_,⟨n,s,⟨a.dk,0,0⟩,ak⟩⟩,rfl,rfl,rfl,rfl,rfl,rfl,rfl,rfl,Nf,λ_ _=>⟨⟨Z8,by rw[iJ];omega⟩,⟨X,[],M++[⟨n,s,⟨a.dk,0,0⟩,ak⟩]⟩,rfl,rfl,Nb _ _ _,Na _ _ _ _,⟨k',by dsimp only;simp only[ua]at hk ⊢;omega,?_,by dsimp only;rw[iv,AN];omega⟩,by dsimp only;rw[iJ];omega,gu⟩⟩;rw[hM,v7,jx,jh];rfl
  rw[iJ,iJ]at hk;have la:(0:Int)<=0/\(0:Int)<((a::X).length:Nat):=⟨Z8,by rw[iJ];omega⟩
  have lb:(0:Int)<=0/\(0:Int)<((b::Y).length:Nat):=⟨Z8,by rw[iJ];omega⟩
  have la1:(0:Int)<=1/\(1:Int)<=((a::X).length:Nat):=⟨Z8,by rw[iJ];omega⟩
  have lb1:(0:Int)<=1/\(1:Int)<=((b::Y).length:Nat):=⟨Z8,by rw[iJ];omega⟩
  refine⟨ak,λt=>t=ki s a.dk b.dk,Cv.dq.mk (λe=> ?_) (λ_=>Cv.dq.mk (λ_=>⟨la,a.dk,(DF a X).1,lb,b.dk,(DF b Y).1,⟨s,a.dk,b.dk⟩,rfl,rfl,rfl,trivial,λ_ _=>⟨_,rfl,rfl,gu⟩⟩) (λe=> ?_)),?_⟩
  ·exfalso;simp at e;omega
  ·exfalso;simp at e
  rintro _ rfl;refine Cv.dq.mk (λc1=> ?_) (λc1=> ?_)
  ·refine⟨la,a.dk,(DF a X).1,⟨_,⟨n,s,⟨a.dk,0,0⟩,ak⟩⟩,rfl,rfl,rfl,rfl,rfl,rfl,rfl,rfl,Nf,λ_ _=>⟨la1,⟨X,b::Y,M++[⟨n,s,⟨a.dk,0,0⟩,ak⟩]⟩,rfl,rfl,Nb _ _ _,Na _ _ _ _,⟨k',by dsimp only;rw[iJ];omega,?_,by dsimp only;rw[iv,AN];omega⟩,by dsimp only;rw[iJ,iJ];omega,gu⟩⟩;rw[hM,v7,fh c1,jx,jh];rfl
  have c1:¬ki s a.dk b.dk=am:=by simp[c1]
  refine⟨ak,λt=>t=ki s b.dk a.dk,Cv.dq.mk (λe=> ?_) (λ_=>⟨lb,b.dk,(DF b Y).1,la,a.dk,(DF a X).1,⟨s,b.dk,a.dk⟩,rfl,rfl,rfl,trivial,λ_ _=>⟨_,rfl,rfl,gu⟩⟩),?_⟩
  ·exfalso;simp at e;omega
  rintro _ rfl;refine Cv.dq.mk (λc2=> ?_) (λc2=> ?_)
  ·refine⟨lb,b.dk,b.dr,b.count,(DF b Y).2,⟨_,⟨n,s,b,ak⟩⟩,rfl,rfl,rfl,rfl,rfl,rfl,rfl,rfl,Nf,λ_ _=>⟨lb1,⟨a::X,Y,M++[⟨n,s,b,ak⟩]⟩,rfl,rfl,Nb _ _ _,Na _ _ _ _,⟨k',by dsimp only;rw[iJ];omega,?_,by dsimp only;rw[iv,AN];omega⟩,by dsimp only;rw[iJ,iJ];omega,gu⟩⟩;rw[hM,v7,fb c1,fh c2,jx,jh];rfl
  have c2:¬ki s b.dk a.dk=am:=by simp[c2]
  by_cases Eo:a=b
  ·refine⟨⟨_,_⟩,rfl,rfl,λD=>D=⟨d.seq+(M.length:Nat),d.out++wT d.seq M⟩,⟨ak,λt=>t=ak,⟨la,a.dk,a.dr,a.count,(DF a X).2,lb,b.dk,b.dr,b.count,(DF b Y).2,_,rfl,by rw[yIr,lg Eo];rfl,gu⟩,?_⟩,?_⟩
   ·rintro _ rfl;exact Cv.dq.mk (λc=>absurd c Z8) (λ_=>⟨_,rfl,rfl,rfl,gu⟩)
   rintro _ rfl;refine⟨la1,lb1,⟨X,Y,M⟩,iT ⟨rfl,⟨k',Z9,?_,Z9⟩,by dsimp only;rw[iJ,iJ];omega,gu⟩⟩;rw[hM,v7,fb c1,fb c2,fh Eo];rfl
  ·refine⟨⟨_,_⟩,rfl,rfl,λD=>D=te.add ⟨d.seq+(M.length:Nat),d.out++wT d.seq M⟩ [⟨n,s,b,ak⟩],⟨ak,λt=>t=am,⟨la,a.dk,a.dr,a.count,(DF a X).2,lb,b.dk,b.dr,b.count,(DF b Y).2,_,rfl,by rw[yIr,ku Eo];rfl,gu⟩,?_⟩,?_⟩
   ·rintro _ rfl;exact Cv.dq.mk (λ_=>⟨lb,b.dk,b.dr,b.count,(DF b Y).2,⟨_,⟨n,s,b,ak⟩⟩,rfl,rfl,rfl,rfl,rfl,rfl,rfl,rfl,Nf,λ_ _=>⟨_,rfl,rfl,rfl,gu⟩⟩) (λc=>absurd c Z8)
   rintro _ rfl;refine⟨la1,lb1,⟨X,Y,M++[⟨n,s,b,ak⟩]⟩,rfl,rfl,Nb _ _ _,Na _ _ _ _,⟨k',Z9,?_,by dsimp only;rw[iv,AN];omega⟩,by dsimp only;rw[iJ,iJ];omega,gu⟩;rw[hM,v7,fb c1,fb c2,fb Eo,jr,jh];rfl
 obtain rfl:x=[]:=yh oM;obtain rfl:y=[]:=yh oM;rw[yJc,CG,oU]at hM;rw[yIr];refine⟨ak,λt=>t=OI ⟨al,ai,ah⟩ ⟨bl,bi,bh⟩,Cv.dq.mk (λe=>⟨am,rfl,?_,gu⟩) (λe=>⟨_,rfl,?_,gu⟩),?_⟩
 ·have e:ai≠bi:=by simpa using e
  rw[OI];simp[e]
 ·have e:ai=bi:=by simpa using e
  rw[OI,e];cases ah<;>cases bh<;>simp
 rintro _ rfl;refine Cv.dq.mk (λe=>⟨bi,rfl,rfl,rfl,λl=>l=MK ⟨bl,bi,bh⟩,Cv.dq.mk (λe2=>⟨lv0,rfl,rfl,rfl,?_,gu⟩) (λe2=>⟨bi,rfl,rfl,rfl,?_,gu⟩),?_⟩) (λe=> ?_)
 ·rw[MK,fb (by simpa using e2)]
 ·rw[MK,fh (by simpa using e2)]
 ·rintro _ rfl;have Ei:wK n s ⟨al,ai,ah⟩ ⟨bl,bi,bh⟩=M++[⟨n,s,MK ⟨bl,bi,bh⟩,am⟩]:=by rw[wK,fh e,hM]
  rw[Ei];exact⟨⟨_,⟨n,s,MK ⟨bl,bi,bh⟩,am⟩⟩,rfl,rfl,rfl,rfl,rfl,rfl,rfl,rfl,Nf,λ_ _=>⟨(),Nb _ _ _,Na _ _ _ _,trivial⟩⟩
 ·have Ei:wK n s ⟨al,ai,ah⟩ ⟨bl,bi,bh⟩=M:=by rw[wK,fb (by simp[e]),hM,oU]
  rw[Ei];exact⟨(),rfl,rfl,trivial⟩
def yLp:FY.ok Tryz.prog 164:=ib mixed (dx yHf (dx zUb fj)) 0 (λ_=>yZj) (λi=>yXz i) [] Tryz.func164 y0c
def y6s (i:JB) (h:J'.dq i):yVa i:=by
 obtain⟨hvw,⟨s1,s2⟩,l1,l2,hn⟩:i.v.length=i.w.length/\(-4000000000000000000<=i.seq/\i.seq<=4000000000000000000)/\Vw.pn i.v<=100000000/\Vw.pn i.w<=100000000/\i.v.length<=1000000:=h;have hmx:(i.v.map yG).length=i.v.length:=im _;have hmy:(i.w.map yG).length=i.w.length:=im _;unfold yVa fV cH cI rR TQ pT Yb dI;rw[hmx,hmy];refine Cv.dq.mk (λc=> ?_) (λ_=> ?_)
 ·have c:(i.v.length:Int)≠i.w.length:=by simpa using c
  omega
 refine⟨0,rfl,by simp[wD],by simp[wD,wT],λj=>j<=i.v.length,λj=>i.v.length-j,mz _,λj hj=>zH (λe=> ?_) (λe=> ?_)⟩
 ·have hj:j<=i.v.length:=hj;obtain⟨a,ha⟩:=z6 (l:=i.v) (i:=j) oM;obtain⟨b,hb⟩:=z6 (l:=i.w) (i:=j) oM;have hd:=yKw i.v i.w j hj oM;have t1:=TG ha;have t2:=TG hb;have u1:=yCn i.v (j+1);have u2:=yCn i.w (j+1);have q1:=ZB j 1 a.1 b.1;have hvt:=VQ 0 j ha hb;rw[oa]at hvt;have bdv:(0:Int)<=j/\(j:Int)<(i.v.length:Nat):=⟨oM,e⟩
  have bdw:(0:Int)<=j/\(j:Int)<(i.w.length:Nat):=⟨oM,oM⟩
  obtain⟨D,hD⟩:∃D:te,D=te.add ⟨i.seq,[]⟩ (wD 0 (i.v.take j) (i.w.take j)):=⟨_,rfl⟩
  have hDs:D.seq=i.seq+((wD 0 (i.v.take j) (i.w.take j)).length:Nat):=by rw[hD];rfl
  have hDo:D.out=[]++wT i.seq (wD 0 (i.v.take j) (i.w.take j)):=by rw[hD];rfl
  have hDl:D.out.length=(wD 0 (i.v.take j) (i.w.take j)).length:=by rw[hDo,xj,mE]
  refine⟨⟨Z8,Z8⟩,1,rfl,bdv,_,_,_,_,_,(Ur ha).2.1,bdw,_,_,_,_,_,(Ur hb).2.1,⟨D,j,1,a.1,b.1⟩,rfl,rfl,rfl,rfl,rfl,rfl,rfl,rfl,rfl,rfl,rfl,rfl,hDs,by rw[hDo],⟨Z9,Z9,Z9⟩,λ_ _=>⟨⟨Z8,Z8⟩,2,rfl,bdv,_,_,_,_,_,(Ur ha).2.2,bdw,_,_,_,_,_,(Ur hb).2.2,⟨D.add (wK j 1 a.1 b.1),j,2,a.2,b.2⟩,rfl,rfl,rfl,rfl,rfl,rfl,rfl,rfl,rfl,rfl,rfl,rfl,rfl,rfl,⟨by simp only[te.add];omega,by simp only[te.add];omega,by simp only[te.add];rw[iv,mE];omega⟩,λ_ _=>⟨j+1,rf oM,?_,?_,Z9,Z9,gu⟩⟩⟩
  ·show(te.add ⟨i.seq,[]⟩ (wD 0 (i.v.take (j+1)) (i.w.take (j+1)))).seq=((D.add (wK j 1 a.1 b.1)).add (wK j 2 a.2 b.2)).seq;rw[hvt,hD,SH,SH]
  ·show(te.add ⟨i.seq,[]⟩ (wD 0 (i.v.take (j+1)) (i.w.take (j+1)))).out.map yK=((D.add (wK j 1 a.1 b.1)).add (wK j 2 a.2 b.2)).out.map yK;rw[hvt,hD,SH,SH]
 ·have hj:j<=i.v.length:=hj;rw[oh (by omega),oh (by omega)];exact⟨(),rfl,trivial⟩
def yIs:J'.ok Tryz.prog 114:=ib mixed (dx yLp fj) 1 (λ_=>[]) (λi=>y4g i) [] Tryz.func114 y6s
def yVr:∀{l:List zI} {v:Lv},v∈xm l->(1<=v.count/\v.count<=l.length)/\∃o∈l,o.dk=v.dk
 |[],v,h=>by cases h
 |o::l,v,h=>by
  have ih:∀v∈xm l,(1<=v.count/\v.count<=l.length)/\∃o∈l,o.dk=v.dk:=λv hv=>yVr hv
  rw[xm]at h;rw[iJ];split at h
  ·rw[vm]at h;subst h;exact⟨Z9,o,jm,rfl⟩
  ·rename_i w ws e;rw[e]at ih;have hw:=ih w jm;split at h
   ·rename_i ep;rcases mn.1 h with rfl|h
    ·exact⟨Z9,o,jm,ep.symm⟩
    ·obtain⟨a,x,hx,hp⟩:=ih v (kg _ h);exact⟨oM,x,kg _ hx,hp⟩
   ·rcases mn.1 h with rfl|h
    ·exact⟨Z9,o,jm,rfl⟩
    ·obtain⟨a,x,hx,hp⟩:=ih v h;exact⟨oM,x,kg _ hx,hp⟩
def z9e:∀l:List zI,(xm l).length<=l.length
 |[]=>lk 0
 |o::l=>by
  have ih:=z9e l;rw[xm,iJ];cases e:xm l with
  |nil=>simp
  |cons w ws=>
   rw[e,iJ]at ih;dsimp only;split
   ·rw[iJ];omega
   ·rw[iJ,iJ];omega
def y0y {s:Int} {L:List Lv} (h:Ux s L) (hp:∀l∈L,1<=l.dr/\1<=l.count) (i:Nat):xw s L i:=by
 intro a ha;have hm:=hp a (lq ha);refine⟨hm.1,hm.2,?_⟩;rintro j b rfl hb;obtain⟨h1,e1⟩:=jv.1 ha;obtain⟨h2,e2⟩:=jv.1 hb;have:=(List.pairwise_iff_getElem.1 h) j (j+1) h2 h1 (KO j);rw[e1,e2]at this;exact this
def yBp {p:ff} {B:List (List zI)} (h:tg p B) {k:Nat} {L:List zI} (hL:B[k]? =ar L) {s:Int} (hs:s=1\/s=2):
 (∀i,xw s (gL L s) i)/\(gL L s).length<=255/\∀l∈gL L s,(1<=l.dr/\l.dr<=250000000)/\l.fit:=by
 obtain⟨h1,h2,h3⟩:=h.od k L hL;have hf:(L.filter λo=>decide (o.side=s)).length<=L.length:=GG _ _;have hl:=z9e (L.filter λo=>decide (o.side=s));have vj:∀l∈gL L s,(1<=l.dr/\l.dr<=250000000)/\(1<=l.count/\l.count<=250)/\(-2000000<=l.dk/\l.dk<=2000000):=λl hm=>by
  have q:=UG (λo ho=>h1 o (uu.1 ho).1) hm;obtain⟨c,o,ho,e⟩:=yVr hm;have hp:=h.ok.xz hL o (uu.1 ho).1;rw[e]at hp;exact⟨oM,oM,hp⟩
 refine⟨y0y (yQh h hL hs).1 λl hm=>⟨(vj l hm).1.1,(vj l hm).2.1.1⟩,by rw[gL];omega,λl hm=> ?_⟩;obtain⟨a,b,c⟩:=vj l hm;exact⟨a,⟨oM,oM⟩,⟨oM,oM⟩,⟨oM,oM⟩⟩
def z3w {p:ff} {B:List (List zI)} (h:tg p B) {k:Nat} {L:List zI} (hL:B[k]? =ar L) {s:Int} (hs:s=1\/s=2) (hb:(iG L s).2=am):1<=(iG L s).1.dr/\(iG L s).1.dr<=250000000:=by
 have hm:(iG L s).1∈gL L s:=by
  rw[iG]at hb ⊢;split at hb
  ·cases hb
  ·rename_i v vs e;rw[e];exact jm
 exact((yBp h hL hs).2.2 _ hm).1
def yVq {p:ff} {B:List (List zI)} (h:tg p B) {i s:Int} (hi:0<=i/\i<(B.map kC).length) (hs:s=1\/s=2) (hh:((B.map kC).getD i.toNat kq).has s=am):1<=((B.map kC).getD i.toNat kq).dr s/\((B.map kC).getD i.toNat kq).dr s<=250000000:=by
 rw[im]at hi;obtain⟨L,hL⟩:=z6 (l:=B) (i:=i.toNat) oM;have e:(B.map kC).getD i.toNat kq=kC L:=by rw[nk,vc,hL];rfl
 rw[e]at hh ⊢;obtain⟨t1,t2,t3,t4,t5,t6⟩:=SD L;rcases hs with rfl|rfl
 ·rw[jy.has,fh rfl,t3]at hh;rw[jy.dr,fh rfl,t2];exact z3w h hL (.inl rfl) hh
 ·rw[jy.has,fb (by decide),t6]at hh;rw[jy.dr,fb (by decide),t5];exact z3w h hL (.inr rfl) hh
def yPb {p:ff} {B:List (List zI)} (h:tg p B) {n s:Int} (hs:s=1\/s=2) {q:Quote} (hq:q∈x5 ⟨p,B.map kC,n⟩ s):(1<=q.dr/\q.dr<=250000000)/\(-2000000<=q.dk/\q.dk<=2000000):=by
 rw[x5,uu]at hq;obtain⟨ok,-⟩:=yAs h.ok.pc (by rw[im,h.ok.bl]) hs hq.1;have qa:=yVq h ok.a ok.sa ok.ha;have qb:=yVq h ok.b ok.sb ok.hb;have hp:p.dk n q.dk=0:=by simpa using hq.2
 exact⟨by rw[ok.dr];omega,lU h.ok.pc hp⟩
def Xz (b:Quote) {M:Int}:∀(l:List Quote) (a:Int×Int),(∀q∈l,1<=q.dr/\q.dr<=M)->1<=a.1->a.1<=M->
 (1<=(l.foldl (λa q=>if q.dk=b.dk then(if q.dr>a.1 then q.dr else a.1,a.2+1)else a) a).1/\(l.foldl (λa q=>if q.dk=b.dk then(if q.dr>a.1 then q.dr else a.1,a.2+1)else a) a).1<=M)/\
 a.2<=(l.foldl (λa q=>if q.dk=b.dk then(if q.dr>a.1 then q.dr else a.1,a.2+1)else a) a).2/\(l.foldl (λa q=>if q.dk=b.dk then(if q.dr>a.1 then q.dr else a.1,a.2+1)else a) a).2<=a.2+l.length/\
 (b∈l->a.2+1<=(l.foldl (λa q=>if q.dk=b.dk then(if q.dr>a.1 then q.dr else a.1,a.2+1)else a) a).2)
 |[],a,_,h1,h2=>⟨⟨h1,h2⟩,yp _,by simp,λh=>by cases h⟩
 |q::l,a,hq,h1,h2=>by
  have q0:=hq q jm;rw[EL,iJ];by_cases e:q.dk=b.dk
  ·rw[fh e];obtain⟨r1,r2,r3,r4⟩:=Xz b (M:=M) l (if q.dr>a.1 then q.dr else a.1,a.2+1) (λx hx=>hq x (kg _ hx)) (by dsimp only;split<;>omega) (by dsimp only;split<;>omega);dsimp only at r2 r3;exact⟨r1,oM,oM,λ_=>r2⟩
  ·rw[fb e];obtain⟨r1,r2,r3,r4⟩:=Xz b (M:=M) l a (λx hx=>hq x (kg _ hx)) h1 h2;refine⟨r1,r2,oM,λhb=> ?_⟩;rcases mn.1 hb with rfl|hb
   ·exact absurd rfl e
   ·exact r4 hb
def yIk {l:List Quote} {s:Int} (hl:l.length<=100) (h:∀q∈l,(1<=q.dr/\q.dr<=250000000)/\(-2000000<=q.dk/\q.dk<=2000000)):
 ((qN l s).2=am->1<=(qN l s).1.dr/\1<=(qN l s).1.count)/\((qN l s).2=ak->(qN l s).1=⟨0,0,0⟩)/\(qN l s).1.fit:=by
 by_cases e:(zU l s).2=am
 ·have hm:=Ym e;have hb:=h _ hm;have:=Xz (zU l s).1 (M:=250000000) l ((zU l s).1.dr,0) (λq hq=>(h q hq).1) hb.1.1 hb.1.2;have e2:qN l s=(⟨(zU l s).1.dk,(dR l (zU l s).1).1,(dR l (zU l s).1).2⟩,am):=by rw[qN,fh e]
  rw[e2];rw[<- dR]at this;obtain⟨r1,r2,r3,r4⟩:=this;have r4:=r4 hm;dsimp only at r2 r3 r4 ⊢;exact⟨λ_=>⟨r1.1,oM⟩,λx=>(by cases x),⟨Z9,Z9⟩,⟨Z9,Z9⟩,⟨Z9,Z9⟩⟩
 ·have e2:qN l s=(⟨0,0,0⟩,ak):=by rw[qN,fb e]
  rw[e2];exact⟨λx=>(by cases x),λ_=>rfl,⟨Z8,Z8⟩,⟨Z8,Z8⟩,⟨Z8,Z8⟩⟩
def eL {p:ff} {B:List (List zI)} (h:tg p B):aF (yO p B)/\y3i (yO p B)/\Mv (yO p B):=by
 have hc:=xS p;have hlen:=Yr p B;have oW:∀k,k<p.count->∀s,s=1\/s=2->nw s (Hn p B k s)/\(Hn p B k s).fit:=λk hk s hs=>by
  obtain⟨L,hL⟩:=z6 (l:=B) (i:=k) (by rw[h.ok.bl];exact hk);have e:B.getD k []=L:=zT hL;obtain⟨a1,a2,a3⟩:=yBp h hL hs;obtain⟨b1,b2,b3⟩:=yIk (s:=s) (zLt ⟨p,B.map kC,k⟩ s) (λq hq=>yPb h hs hq);rw[Hn,e];exact⟨⟨a1,a2,b1,b2⟩,λx hx=>(a3 x hx).2,b3⟩
 have tu:∀b∈yO p B,∃k,k<p.count/\b=(Hn p B k 1,Hn p B k 2):=λb hb=>by
  rw[yO]at hb;obtain⟨k,hk,rfl⟩:=pj.1 hb;exact⟨k,B5.1 hk,rfl⟩
 refine⟨⟨λb hb=> ?_,oM⟩,λb hb=> ?_,⟨oM,λb hb=> ?_⟩⟩
 ·obtain⟨k,hk,rfl⟩:=tu b hb;exact⟨(oW k hk 1 (.inl rfl)).1,(oW k hk 2 (.inr rfl)).1⟩
 ·obtain⟨k,hk,rfl⟩:=tu b hb;exact⟨(oW k hk 1 (.inl rfl)).2,(oW k hk 2 (.inr rfl)).2⟩
 ·obtain⟨k,hk,rfl⟩:=tu b hb;have a:=(oW k hk 1 (.inl rfl)).1.2.1;have c:=(oW k hk 2 (.inr rfl)).1.2.1;dsimp only;omega
structure Nz (p:ff) (v:Vw):Prop where
 r:aF v
 f:y3i v
 s:Mv v
 len:v.length=p.count
def SA {p:ff} {B:List (List zI)} (h:tg p B):Nz p (yO p B):=⟨(eL h).1,(eL h).2.1,(eL h).2.2,Yr p B⟩
def yIu {p:ff} {v:Vw} (h:Nz p v):Vw.pn v<=510*v.length:=by
 have:∀{v:Vw},(∀b∈v,nw 1 b.1/\nw 2 b.2)->Vw.pn v<=510*v.length:=by
  intro v
  induction v with
  |nil=>intro _;exact lk _
  |cons a v ih=>
   intro h;have ha:=h a jm;have:=ih λb hb=>h b (kg _ hb)
   have h1:=ha.1.2.1;have h2:=ha.2.2.1;rw[Vw.pn]at this ⊢;rw[jx,ra,iJ];omega
 exact this h.r.1
@[reducible] def y6w (v:Vw):fi:= .own 180 10 (v.map yG)
@[reducible] def BZ (v:Vw):fi:= .jc 10 (v.map yG)
def FO:gi:=fp NG (λi=>[oe i.p,.nm 0 0]) (λi=>[zE i.s]) (λi=>i.s.fq i.p i.B/\iS i.p i.B) (λ_=> .agg [.own 1]) (λi=>[zE i.s,y6w (yO i.p i.B)])
def RW:gi:=fp uz (λi=>[.nm 0 0,zA i.s,oD 1 (bE i.b)]) (λ_=>[.gone]) (λi=>i.b.length<=1099511627776) (λi=>zA (zL i.s i.b).2) (λ_=>[.gone])
def L0:gi:=fp Gt (λ_=>[.nm 0 0]) (λg=>Vx g) (λ_=>True) (λ_=> .nm 1 0) (λg=>Vx g)
def LS:gi:=fp iq (λ_=>[.nm 0 0]) (λm=>BG m) (λ_=>True) (λ_=> .nm 1 0) (λm=>BG m)
structure En where
 p:ff
 v:Vw
 q:Int
 R:List (List UInt8)
@[reducible] def bF:Nat:=106
def G3 (e:En) (r l:Nat):fi:= .cells [sV e.p.code,.own 5,zA e.p.tick,zA e.p.low,zA e.p.high,zA e.p.wide,zA e.p.dt,zA e.p.top,zA e.p.least,zA e.p.part,.own 6,.nm 1 0,.nm 2 0,.own l,zA e.q,.own r] bF
structure Es where
 B:List (List zI)
 U:List Int
 W:List (Int×Int)
 q:Int
 R:List (List UInt8)
def Es.en (x:Es) (p:ff):En:=⟨p,yO p x.B,x.q,x.R⟩
def v8 (s:Int) (b:List UInt8):List UInt8:=jj s::b
def Es.X (x:Es) (p:ff) (s:Int) (b:List UInt8):P2:=bW p x.B x.U x.W s b
def Es.M (x:Es) (p:ff) (s:Int) (b:List UInt8):List VM:=wD 0 (yO p x.B) (yO p (x.X p s b).B)
def Es.ed (x:Es) (p:ff) (s:Int) (b:List UInt8):Es:=⟨(x.X p s b).B,(x.X p s b).U,(x.X p s b).W,x.q+(x.M p s b).length,x.R++[v8 s b]⟩
structure xp where
 o:iq
 x:Es
 p:ff
 s:Int
 b:List UInt8
def xp.g (i:xp):Gt:=⟨i.o,i.x.W⟩
@[reducible] def xp.ok (i:xp):Prop:=(i.o.fq i.p i.x.B i.x.U/\iS i.p i.x.B)/\i.b.length<=1048576/\(0<=i.s/\i.s<8)/\(0<=i.x.q/\i.x.q<=1000000000000000000)/\i.x.R.length<=1000000
def xp.Y (i:xp):Es:=i.x.ed i.p i.s i.b
def xp.N (i:xp):List tY:=wT i.x.q (i.x.M i.p i.s i.b)
def xp.O (i:xp):List (Int×fq):=(i.x.X i.p i.s i.b).O
def xp.rows (i:xp):List fi:=[G3 (i.x.en i.p) 4 7,.gone,gy i.g,.gone,yu i.x.R,.jc 1 (iE i.p.dm),.jc 1 (iE i.p.settle),BZ (yO i.p i.x.B)]
def edC:gi where
 ι:=xp
 pat:=λi=>[.nm 0 0,zA i.s,oD 1 (bE i.b)]
 pre:=λi=>i.rows
 dq:=λi=>i.ok
 alts:=λi=>[{o:=iq,res:=λ_=> .agg [.own 10,.own 11],post:=λo=>[G3 (i.Y.en i.p) 8 9,.gone,gy ⟨o,i.Y.W⟩,.gone,.gone,.jc 1 (iE i.p.dm),.jc 1 (iE i.p.settle),.gone,yu i.Y.R,BZ (yO i.p i.Y.B),EE i.O,IW i.N],rel:=λo=>o.fq i.p i.Y.B i.Y.U}]
def yKl (i:NG):Prop:=
 ∃(a:ff),sb a.code=sb i.p.code/\iE a.dm=iE i.p.dm/\a.tick=i.p.tick/\a.low=i.p.low/\a.high=i.p.high/\a.wide=i.p.wide/\a.dt=i.p.dt/\a.top=i.p.top/\a.least=i.p.least/\a.part=i.p.part/\iE a.settle=iE i.p.settle/\(zW a)/\∀(b:Unit),True->dq (a.check !=0) (∃(c:Unit),dj (zE i.s)/\aa yG (yO i.p i.B)=[]/\True) (∃(c:gq),zE c=zE i.s/\(cC c)/\∀(d:Unit),True->∃(e:ff),sb e.code=sb i.p.code/\iE e.dm=iE i.p.dm/\e.tick=i.p.tick/\e.low=i.p.low/\e.high=i.p.high/\e.wide=i.p.wide/\e.dt=i.p.dt/\e.top=i.p.top/\e.least=i.p.least/\e.part=i.p.part/\iE e.settle=iE i.p.settle/\(zW e)/\∀(f:Unit),True->∃(g:Nat),(↑g:Int)=0/\aa yG (ab g (yO i.p i.B))=[]/\aa z7 (aa kC i.B)=aa z7 c.fg/\∃(h:Nat->Prop),∃(j:Nat->Nat),h g/\∀(k:Nat),h k->dq (decide ((↑k:Int)<(↑e.count:Int))) (((0:Int)<=(0:Int)/\0<(↑(2:Nat):Int))/\∃(l:Int),zD [[dI 1],[dI 2]] (ao 0) 0 1=ar [dI l]/\∃(m:BU),m.inst=(↑k:Int)/\zC m.sd=l/\zE m.s=zE c/\(m.s.fq m.p m.B/\m.B.length<=1000)/\∀(n:Unit),True->∃(p:AY),sb p.i.p.code=sb i.p.code/\iE p.i.p.dm=iE i.p.dm/\p.i.p.tick=i.p.tick/\p.i.p.low=i.p.low/\p.i.p.high=i.p.high/\p.i.p.wide=i.p.wide/\p.i.p.dt=i.p.dt/\p.i.p.top=i.p.top/\p.i.p.least=i.p.least/\p.i.p.part=i.p.part/\iE p.i.p.settle=iE i.p.settle/\aa z7 p.i.fg=aa z7 (aa kC i.B)/\p.i.inst=(↑k:Int)/\zC p.s=l/\(kO p)/\∀(q:Unit),True->∃(r:zw),aa zJ r.l=aa zJ (x5 p.i (zC p.s))/\r.s=l/\(dU r)/\∀(s:Unit),True->(fV)/\∃(t:Int),zD [[dI 1],[dI 2]] (ap.wrap ((0:Int)+(1:Int))).toNat 0 1=ar [dI t]/\∃(u:BU),u.inst=(↑k:Int)/\zC u.sd=t/\zE u.s=zE m.s/\(u.s.fq u.p u.B/\u.B.length<=1000)/\∀(v:Unit),True->∃(w:AY),sb w.i.p.code=sb i.p.code/\iE w.i.p.dm=iE i.p.dm/\w.i.p.tick=i.p.tick/\w.i.p.low=i.p.low/\w.i.p.high=i.p.high/\w.i.p.wide=i.p.wide/\w.i.p.dt=i.p.dt/\w.i.p.top=i.p.top/\w.i.p.least=i.p.least/\w.i.p.part=i.p.part/\iE w.i.p.settle=iE i.p.settle/\aa z7 w.i.fg=aa z7 (aa kC i.B)/\w.i.inst=(↑k:Int)/\zC w.s=t/\(kO w)/\∀(x:Unit),True->∃(y:zw),aa zJ y.l=aa zJ (x5 w.i (zC w.s))/\y.s=t/\(dU y)/\∀(z:Unit),True->((aa yG (ab k (yO i.p i.B))).length+1)*(112:Nat)<=(140737488355328:Nat)/\∃(iW:Nat),(↑iW:Int)=ap.wrap ((↑k:Int)+1)/\aa yG (ab iW (yO i.p i.B))=aa yG (ab k (yO i.p i.B))++[[D.ro 3 (aa kx (aS m)),dI ((qN r.l r.s).fst.dk),dI ((qN r.l r.s).fst.dr),dI ((qN r.l r.s).fst.count),D.v (.bool (qN r.l r.s).snd),D.ro 3 (aa kx (aS u)),dI ((qN y.l y.s).fst.dk),dI ((qN y.l y.s).fst.dr),dI ((qN y.l y.s).fst.count),D.v (.bool (qN y.l y.s).snd)]]/\dj (af 6 (aa z7 (aa kC i.B)))/\h iW/\j iW<j k/\zE u.s=zE c/\dj (ag (Sx.V.agg [V.d uI]).cl 89)/\dj (ag [V.d (D.v (Value.string (sb i.p.code))),V.own 1,V.d (dI i.p.tick),V.d (dI i.p.low),V.d (dI i.p.high),V.d (dI i.p.wide),V.d (dI i.p.dt),V.d (dI i.p.top),V.d (dI i.p.least),V.d (dI i.p.part),V.own 2] 25)/\dj (af 1 (iE i.p.settle))/\dj (af 1 (iE i.p.dm))) (∃(l:Unit),zE i.s=zE c/\aa yG (yO i.p i.B)=aa yG (ab k (yO i.p i.B))/\True))
def y4l (i:uz):Prop:=
 ∃(iw:uz),iw.s=i.s/\bE iw.b=bE i.b/\iw.b.length<=1099511627776/\∀(o:Unit),True->∃(o:Unit),(zL i.s i.b).snd=(zL iw.s iw.b).snd/\True
def y0j (g:Gt):Prop:=
 ∃(o:Unit),fi.qw iq 5 yY g.m=jX g.m/\dj (xO g.W)/\True
def yZo (m:iq):Prop:=
 ∃(o:Unit),dj (sb m.p.code)/\dj m.p.tick/\dj m.p.low/\dj m.p.high/\dj m.p.wide/\dj m.p.dt/\dj m.p.top/\dj m.p.least/\dj m.p.part/\zE m.s=yY m 1/\dj (zX m.used)/\af 1 (iE m.p.dm)=yY m 3/\af 1 (iE m.p.settle)=yY m 4/\True
def MH (a:xp):Prop:=sb a.p.code=sb a.p.code/\True/\dj a.p.tick/\dj a.p.low/\dj a.p.high/\dj a.p.wide/\dj a.p.dt/\dj a.p.top/\dj a.p.least/\dj a.p.part/\True/\True
def Mx (a:xp):=(aa yG (yO a.p (a.x.X a.p a.s a.b).B))
def ZE (a:xp) (b:iq) (c:Gt) (d:List (List UInt8)) (e:A8):Prop:=∃(f:NG),sb f.p.code=sb a.p.code/\iE f.p.dm=iE a.p.dm/\f.p.tick=a.p.tick/\f.p.low=a.p.low/\f.p.high=a.p.high/\f.p.wide=a.p.wide/\f.p.dt=a.p.dt/\f.p.top=a.p.top/\f.p.least=a.p.least/\f.p.part=a.p.part/\iE f.p.settle=iE a.p.settle/\zE f.s=zE b.s/\(f.s.fq f.p f.B/\iS f.p f.B)/\∀(g:Unit),True->∃(h:JB),aa yG h.v=aa yG (yO a.p a.x.B)/\aa yG h.w=aa yG (yO f.p f.B)/\h.seq=a.x.q/\(ae h.v=ae h.w/\((-4000000000000000000)<=h.seq/\h.seq<=4000000000000000000)/\h.v.pn<=100000000/\h.w.pn<=100000000/\ae h.v<=1000000)/\∀(j:Unit),True->∃(k:iq),dj (sb a.p.code)/\dj a.p.tick/\dj a.p.low/\dj a.p.high/\dj a.p.wide/\dj a.p.dt/\dj a.p.top/\dj a.p.least/\dj a.p.part/\a.x.q+(↑(a.x.M a.p a.s a.b).length:Int)=ap.wrap (a.x.q+(↑(aa yK (wT h.seq (wD 0 h.v h.w))).length:Int))/\sb k.p.code=sb b.p.code/\k.p.tick=b.p.tick/\k.p.low=b.p.low/\k.p.high=b.p.high/\k.p.wide=b.p.wide/\k.p.dt=b.p.dt/\k.p.top=b.p.top/\k.p.least=b.p.least/\k.p.part=b.p.part/\zE k.s=zE f.s/\zX k.used=zX b.used/\af 1 (iE k.p.dm)=af 1 (iE b.p.dm)/\af 1 (iE k.p.settle)=af 1 (iE b.p.settle)/\xO (a.x.X a.p a.s a.b).W=xO c.W/\dj (af 1 (iE a.p.dm))/\dj (af 1 (iE a.p.settle))/\aa gh (a.x.R++[v8 a.s a.b])=aa gh a.x.R++[[D.ro 1 (bE d.flatten)]]/\af 10 (Mx a)=af 10 (aa yG (yO f.p f.B))/\aa xF a.O=aa xF e.X.O/\aa yK a.N=aa yK (wT h.seq (wD 0 h.v h.w))/\k.fq a.p (a.x.X a.p a.s a.b).B (a.x.X a.p a.s a.b).U
def Zz (a:xp) (b:iq) (c:Gt) (d:List (List UInt8)) (e:A8):Prop:=(MH a)/\ZE a b c d e
def Z3 (a:xp) (b:Gt) (c:List (List UInt8)) (d:A8):Prop:=(MH a)/\∃(e:iq),sb e.p.code=sb b.m.p.code/\e.p.tick=b.m.p.tick/\e.p.low=b.m.p.low/\e.p.high=b.m.p.high/\e.p.wide=b.m.p.wide/\e.p.dt=b.m.p.dt/\e.p.top=b.m.p.top/\e.p.least=b.m.p.least/\e.p.part=b.m.p.part/\zE e.s=zE b.m.s/\zX e.used=zX b.m.used/\af 1 (iE e.p.dm)=af 1 (iE b.m.p.dm)/\af 1 (iE e.p.settle)=af 1 (iE b.m.p.settle)/\True/\∀(f:Unit),True->Zz a e b c d
def Mw (a:A8):Prop:=(a.g.m.fq a.p a.B a.U/\iS a.p a.B)/\a.b.length<=1099511627776/\a.X=bW a.p a.B a.U a.g.W a.s a.b
def Ved (i:xp):Prop:=
 True/\True/\∃(a:List (List UInt8)),aa gh a=[[D.ro 1 [[D.v (.int .u8 (aq.wrap i.s))]]],[D.ro 1 (bE i.b)]]/\(1<=a.flatten.length/\a.flatten.length<=1099511627776/\a.length<=1000)/\∀(b:Unit),True->True/\True/\((aa gh i.x.R).length+1)*(24:Nat)<=(140737488355328:Nat)/\∃(c:A8),c.s=i.s/\bE c.b=bE i.b/\gy c.g=gy i.g/\(Mw c)/\∀(d:iq),d.fq c.p c.X.B c.X.U->(∃(e:Gt),jX e.m=jX d/\xO e.W=xO c.X.W/\True/\∀(f:Unit),True->(MH i)/\(∃(g:iq),sb g.p.code=sb e.m.p.code/\g.p.tick=e.m.p.tick/\g.p.low=e.m.p.low/\g.p.high=e.m.p.high/\g.p.wide=e.m.p.wide/\g.p.dt=e.m.p.dt/\g.p.top=e.m.p.top/\g.p.least=e.m.p.least/\g.p.part=e.m.p.part/\zE g.s=zE e.m.s/\zX g.used=zX e.m.used/\af 1 (iE g.p.dm)=af 1 (iE e.m.p.dm)/\af 1 (iE g.p.settle)=af 1 (iE e.m.p.settle)/\True/\∀(h:Unit),True->(MH i)/\(ZE i g e a c)/\Zz i g e a c)/\Z3 i e a c)/\True/\(MH i)/\∃(e:Gt),jX e.m=jX d/\xO e.W=xO c.X.W/\True/\∀(f:Unit),True->Z3 i e a c
end Sx
