/- Texts of ours. No condition. -/
import Derived.Test.YtgmmlhddihaocaaGreatC12
set_option linter.all false
open List renaming map->aa,take->ab,drop->ac,length->ae
open Sx.ff renaming ja->af,cells->ag,own->aj
open Bool renaming false->ak,true->am
open Int renaming toNat->ao
open Go.IntKind renaming i64->ap,u8->aq
open Option renaming some->ar
namespace Sx
set_option maxRecDepth 100000
open Go Cv Go.Proofs
def WL (a:Nat) (b:Nat) (c:zm) (d:Nat->Prop) (e:Nat->Nat):Prop:=(↑a:Int)=ap.wrap ((↑b:Int)+1)/\di ((zU c.l c.s).fst.dj)/\di ((zU c.l c.s).fst.dq)/\di ((zU c.l c.s).fst.a.inst)/\di ((zU c.l c.s).fst.a.side)/\di ((zU c.l c.s).fst.b.inst)/\di ((zU c.l c.s).fst.b.side)/\d a/\e a<e b/\True
def qT (a:Nat) (b:zm):=(dN (ab a b.l) (zU b.l b.s).fst)
def yTz (i:zm):Prop:=
 ∃(a:zm),aa zJ a.l=aa zJ i.l/\a.s=i.s/\(cK a)/\∀(b:Unit),True->dp (!(zU a.l a.s).snd) (∃(c:Unit),(qK i.l i.s).fst.dj=0/\(qK i.l i.s).fst.dq=0/\(qK i.l i.s).fst.count=0/\(qK i.l i.s).snd=ak/\True) (∃(c:Nat),(qT c i).fst=(zU a.l a.s).fst.dq/\(qT c i).snd=0/\(↑c:Int)=0/\(zU i.l i.s).fst.dj=(zU a.l a.s).fst.dj/\(zU i.l i.s).fst.dq=(zU a.l a.s).fst.dq/\(zU i.l i.s).fst.a.inst=(zU a.l a.s).fst.a.inst/\(zU i.l i.s).fst.a.side=(zU a.l a.s).fst.a.side/\(zU i.l i.s).fst.b.inst=(zU a.l a.s).fst.b.inst/\(zU i.l i.s).fst.b.side=(zU a.l a.s).fst.b.side/\∃(d:Nat->Prop),∃(e:Nat->Nat),d c/\∀(f:Nat),d f->dp (decide ((↑f:Int)<(uK i))) ((0<=(↑f:Int)/\(↑f:Int)<(uK i))/\∃(g:Int),∃(h:Int),∃(j:Int),∃(k:Int),∃(l:Int),∃(m:Int),zD (aa zJ i.l) (↑f:Int).toNat 0 6=ar [dI g,dI h,dI j,dI k,dI l,dI m]/\dp (g==(zU i.l i.s).fst.dj) (∃(n:Nat),((qT n i).fst=if h>(qT f i).fst then h else(qT f i).fst)/\(qT n i).snd=ap.wrap ((qT f i).snd+1)/\WL n f i d e) (∃(n:Nat),(qT n i).fst=(qT f i).fst/\(qT n i).snd=(qT f i).snd/\WL n f i d e)) (∃(g:Unit),(qK i.l i.s).fst.dj=(zU i.l i.s).fst.dj/\(qK i.l i.s).fst.dq=(qT f i).fst/\(qK i.l i.s).fst.count=(qT f i).snd/\(qK i.l i.s).snd=am/\True))
def yLu (i:HG):Prop:=
 True/\((aa y3 i.d.out).length+1)*(56:Nat)<=(140737488355328:Nat)/\∃(a:Unit),i.d.seq+(↑(1:Nat):Int)=ap.wrap (i.d.seq+1)/\aa y3 (i.d.out++wR i.d.seq [i.m])=aa y3 i.d.out++[[dI (ap.wrap (i.d.seq+1)),dI (↑i.m.inst:Int),dI i.m.side,dI i.m.l.dj,dI i.m.l.dq,dI i.m.l.count,D.v (.bool i.m.imp)]]/\True
def jA (a:Ai) (b:vo):=(a.d.out++wR a.d.seq b.M)
def pB (a:Ai):Prop:=ag [V.own 4,V.d (dI a.b.imp.dj),V.d (dI a.b.imp.dq),V.d (dI a.b.imp.count),V.d (D.v (.bool a.b.has))] 179=ag [V.own 4,V.d (dI a.b.imp.dj),V.d (dI a.b.imp.dq),V.d (dI a.b.imp.count),V.d (D.v (.bool a.b.has))] 179/\di (af 3 (aa kg a.b.levels))/\di (ag [V.own 2,V.d (dI a.a.imp.dj),V.d (dI a.a.imp.dq),V.d (dI a.a.imp.count),V.d (D.v (.bool a.a.has))] 179)/\di (af 3 (aa kg a.a.levels))
def XR (a:Ai) (b:vo):Prop:=ag [V.d (dI (a.d.seq+(↑b.M.length:Int))),V.own 7] (266:TypeId)=ag [V.d (dI (a.d.seq+(↑b.M.length:Int))),V.own 7] (266:TypeId)/\di (aj Ny 7 (aa y3 (jA a b)))/\pB a
def rO (a:Bool->Prop) (b:Bool) (c:Ai) (d:vo):Prop:=a b/\XR c d
def XP (a:Ai) (b:Int) (c:Int) (d:Bool->Prop) (e:vo):Prop:=∃(f:I3),f.side=a.s/\f.x=b/\f.y=c/\True/\∀(g:Unit),True->∃(h:Bool),h=bT f.side f.x f.y/\rO d h a e
def Td (a:Bool->Prop) (b:Ai) (c:vo):Prop:=∃(d:Bool),d=am/\rO a d b c
def Xj (a:Lv->Prop) (b:Lv) (c:Ai) (d:vo):Prop:=a b/\XR c d
def WK (a:vo->Prop) (b:vo) (c:vo->Nat) (d:vo) (e:Ai):Prop:=a b/\c b<c d/\pB e
def XB (a:Ai) (b:vo) (c:HG) (d:vo->Prop) (e:vo->Nat) (f:vo):Prop:=a.d.seq+(↑b.M.length:Int)=c.d.seq+(↑(1:Nat):Int)/\aa y3 (jA a b)=aa y3 (c.d.out++wR c.d.seq [c.m])/\WK d b e f a
def Xb (a:sw->Prop) (b:sw) (c:Ai):Prop:=a b/\pB c
def mI (a:HG):Prop:=(-4611686018427387904)<=a.d.seq/\a.d.seq+(↑(1:Nat):Int)<=4611686018427387904/\a.d.out.length+(1:Nat)<=(1000000000:Nat)
def dW (a:vo):=(↑(aa kg a.y).length:Int)
def cH (a:vo):Prop:=(0:Int)<=(0:Int)/\0<(dW a)
def g8 (a:vo):=(↑(aa kg a.x).length:Int)
def a8 (a:vo):Prop:=(0:Int)<=(0:Int)/\0<(g8 a)
def dZ (a:Ai):=(a.d.out++wR a.d.seq (wL a.n a.s a.a a.b))
def cG (a:Ai):=(↑(wL a.n a.s a.a a.b).length:Int)
def yGj (i:Ai):Prop:=
 ∃(a:vo),aa kg a.x=aa kg i.a.levels/\aa kg a.y=aa kg i.b.levels/\i.d.seq+(↑a.M.length:Int)=i.d.seq/\aa y3 (jA i a)=aa y3 i.d.out/\∃(b:vo->Prop),∃(c:vo->Nat),b a/\∀(d:vo),b d->dp (decide (ap.wrap ((g8 d)+(dW d))>0)) (∃(e:Bool),∃(f:Bool->Prop),dp ((dW d)==0) (Td f i d) (dp (decide ((g8 d)>0)) ((a8 d)/\∃(g:Int),zD (aa kg d.x) (ao 0) 0 1=ar [dI g]/\(cH d)/\∃(h:Int),zD (aa kg d.y) (ao 0) 0 1=ar [dI h]/\XP i g h f d) (∃(g:Bool),g=ak/\rO f g i d))/\∀(g:Bool),f g->dp g ((a8 d)/\∃(h:Int),zD (aa kg d.x) (ao 0) 0 1=ar [dI h]/\∃(j:HG),(↑j.m.inst:Int)=(↑i.n:Int)/\j.m.side=i.s/\j.m.l.dj=h/\j.m.l.dq=0/\j.m.l.count=0/\j.m.imp=ak/\j.d.seq=i.d.seq+(↑d.M.length:Int)/\aa y3 j.d.out=aa y3 (jA i d)/\(mI j)/\∀(k:Unit),True->((0:Int)<=(1:Int)/\1<=(g8 d))/\∃(l:vo),aa kg l.x=ac (ao 1) (aa kg d.x)/\aa kg l.y=aa kg d.y/\XB i l j b c d) (∃(h:Bool),∃(j:Bool->Prop),dp ((g8 d)==0) (Td j i d) ((cH d)/\∃(k:Int),zD (aa kg d.y) (ao 0) 0 1=ar [dI k]/\(a8 d)/\∃(l:Int),zD (aa kg d.x) (ao 0) 0 1=ar [dI l]/\XP i k l j d)/\∀(k:Bool),j k->dp k ((cH d)/\∃(l:Int),∃(m:Int),∃(n:Int),zD (aa kg d.y) (ao 0) 0 3=ar [dI l,dI m,dI n]/\∃(p:HG),(↑p.m.inst:Int)=(↑i.n:Int)/\p.m.side=i.s/\p.m.l.dj=l/\p.m.l.dq=m/\p.m.l.count=n/\p.m.imp=ak/\p.d.seq=i.d.seq+(↑d.M.length:Int)/\aa y3 p.d.out=aa y3 (jA i d)/\(mI p)/\∀(q:Unit),True->((0:Int)<=(1:Int)/\1<=(dW d))/\∃(r:vo),aa kg r.x=aa kg d.x/\aa kg r.y=ac (ao 1) (aa kg d.y)/\XB i r p b c d) (∃(l:sw),l.seq=i.d.seq+(↑d.M.length:Int)/\aa y3 l.out=aa y3 (jA i d)/\∃(m:sw->Prop),(∃(n:Bool),∃(p:Bool->Prop),((a8 d)/\∃(q:Int),∃(r:Int),∃(s:Int),zD (aa kg d.x) (ao 0) 0 3=ar [dI q,dI r,dI s]/\(cH d)/\∃(t:Int),∃(u:Int),∃(v:Int),zD (aa kg d.y) (ao 0) 0 3=ar [dI t,dI u,dI v]/\∃(w:Bool),w=!(q==t && (r==u && (s==v && am)))/\p w/\di (ag [V.d (dI l.seq),V.own 9] (266:TypeId))/\di (aj Ny 7 (aa y3 l.out))/\pB i)/\∀(q:Bool),p q->dp q ((cH d)/\∃(r:Int),∃(s:Int),∃(t:Int),zD (aa kg d.y) (ao 0) 0 3=ar [dI r,dI s,dI t]/\∃(u:HG),(↑u.m.inst:Int)=(↑i.n:Int)/\u.m.side=i.s/\u.m.l.dj=r/\u.m.l.dq=s/\u.m.l.count=t/\u.m.imp=ak/\u.d.seq=l.seq/\aa y3 u.d.out=aa y3 l.out/\(mI u)/\∀(v:Unit),True->∃(w:sw),w.seq=u.d.seq+(↑(1:Nat):Int)/\aa y3 w.out=aa y3 (u.d.out++wR u.d.seq [u.m])/\Xb m w i) (∃(r:sw),r.seq=l.seq/\aa y3 r.out=aa y3 l.out/\Xb m r i))/\∀(n:sw),m n->((0:Int)<=(1:Int)/\1<=(g8 d))/\((0:Int)<=(1:Int)/\1<=(dW d))/\∃(p:vo),aa kg p.x=ac (ao 1) (aa kg d.x)/\aa kg p.y=ac (ao 1) (aa kg d.y)/\i.d.seq+(↑p.M.length:Int)=n.seq/\aa y3 (jA i p)=aa y3 n.out/\WK b p c d i))) (∃(e:Bool),∃(f:Bool->Prop),dp (!(i.a.imp.dj==i.b.imp.dj && (i.a.imp.dq==i.b.imp.dq && (i.a.imp.count==i.b.imp.count && am)))) (Td f i d) (∃(g:Bool),g=!i.a.has==i.b.has/\rO f g i d)/\∀(g:Bool),f g->dp g (∃(h:Lv),h.dj=i.b.imp.dj/\h.dq=i.b.imp.dq/\h.count=i.b.imp.count/\∃(j:Lv->Prop),dp (!i.b.has) (∃(k:Lv),k.dj=0/\k.dq=0/\k.count=0/\Xj j k i d) (∃(k:Lv),k.dj=h.dj/\k.dq=h.dq/\k.count=h.count/\Xj j k i d)/\∀(k:Lv),j k->∃(l:HG),(↑l.m.inst:Int)=(↑i.n:Int)/\l.m.side=i.s/\l.m.l.dj=k.dj/\l.m.l.dq=k.dq/\l.m.l.count=k.count/\l.m.imp=am/\l.d.seq=i.d.seq+(↑d.M.length:Int)/\aa y3 l.d.out=aa y3 (jA i d)/\(mI l)/\∀(m:Unit),True->∃(n:Unit),i.d.seq+(cG i)=l.d.seq+(↑(1:Nat):Int)/\aa y3 (dZ i)=aa y3 (l.d.out++wR l.d.seq [l.m])/\True) (∃(h:Unit),i.d.seq+(cG i)=i.d.seq+(↑d.M.length:Int)/\aa y3 (dZ i)=aa y3 (jA i d)/\True))
def W3 (a:Ai):Prop:=(-4611686018427387904)<=a.d.seq/\a.d.seq+(↑(a.a.levels.length+a.b.levels.length+1):Int)<=4611686018427387904/\a.d.out.length+(a.a.levels.length+a.b.levels.length+1)<=1000000000
def rR (a:Jn) (b:Nat):=([]++wR a.seq (j8 0 (ab b a.v) (ab b a.w)))
def S0 (a:Nat) (b:Jn):=(↑(j8 0 (ab a b.v) (ab a b.w)).length:Int)
def pS (a:Jn):=(↑(aa yG a.v).length:Int)
def yTh (i:Jn):Prop:=
 dp ((pS i) !=(↑(aa yG i.w).length:Int)) (∃(a:Unit),aa y3 (wR i.seq (j8 0 i.v i.w))=[]/\True) (∃(a:Nat),(↑a:Int)=0/\i.seq+(S0 a i)=i.seq/\aa y3 (rR i a)=[]/\∃(b:Nat->Prop),∃(c:Nat->Nat),b a/\∀(d:Nat),b d->dp (decide ((↑d:Int)<(pS i))) (((0:Int)<=(0:Int)/\0<(↑(2:Nat):Int))/\∃(e:Int),zD [[dI 1],[dI 2]] (ao 0) 0 1=ar [dI e]/\(0<=(↑d:Int)/\(↑d:Int)<(pS i))/\∃(f:List (List D)),∃(g:Int),∃(h:Int),∃(j:Int),∃(k:Bool),zD (aa yG i.v) (↑d:Int).toNat 0 5=ar [D.ro 3 f,dI g,dI h,dI j,D.v (.bool k)]/\(0<=(↑d:Int)/\(↑d:Int)<(↑(aa yG i.w).length:Int))/\∃(l:List (List D)),∃(m:Int),∃(n:Int),∃(p:Int),∃(q:Bool),zD (aa yG i.w) (↑d:Int).toNat 0 5=ar [D.ro 3 l,dI m,dI n,dI p,D.v (.bool q)]/\∃(r:Ai),(↑r.n:Int)=(↑d:Int)/\r.s=e/\aa kg r.a.levels=f/\r.a.imp.dj=g/\r.a.imp.dq=h/\r.a.imp.count=j/\r.a.has=k/\aa kg r.b.levels=l/\r.b.imp.dj=m/\r.b.imp.dq=n/\r.b.imp.count=p/\r.b.has=q/\r.d.seq=i.seq+(S0 d i)/\aa y3 r.d.out=aa y3 (rR i d)/\(W3 r)/\∀(s:Unit),True->(fP)/\∃(t:Int),zD [[dI 1],[dI 2]] (ap.wrap ((0:Int)+(1:Int))).toNat 0 1=ar [dI t]/\(0<=(↑d:Int)/\(↑d:Int)<(pS i))/\∃(u:List (List D)),∃(v:Int),∃(w:Int),∃(x:Int),∃(y:Bool),zD (aa yG i.v) (↑d:Int).toNat 5 5=ar [D.ro 3 u,dI v,dI w,dI x,D.v (.bool y)]/\(0<=(↑d:Int)/\(↑d:Int)<(↑(aa yG i.w).length:Int))/\∃(z:List (List D)),∃(jb:Int),∃(oZ:Int),∃(iH:Int),∃(ld:Bool),zD (aa yG i.w) (↑d:Int).toNat 5 5=ar [D.ro 3 z,dI jb,dI oZ,dI iH,D.v (.bool ld)]/\∃(iT:Ai),(↑iT.n:Int)=(↑d:Int)/\iT.s=t/\aa kg iT.a.levels=u/\iT.a.imp.dj=v/\iT.a.imp.dq=w/\iT.a.imp.count=x/\iT.a.has=y/\aa kg iT.b.levels=z/\iT.b.imp.dj=jb/\iT.b.imp.dq=oZ/\iT.b.imp.count=iH/\iT.b.has=ld/\iT.d.seq=r.d.seq+(cG r)/\aa y3 iT.d.out=aa y3 (dZ r)/\(W3 iT)/\∀(te:Unit),True->∃(oY:Nat),(↑oY:Int)=ap.wrap ((↑d:Int)+1)/\i.seq+(S0 oY i)=iT.d.seq+(cG iT)/\aa y3 (rR i oY)=aa y3 (dZ iT)/\b oY/\c oY<c d/\di (ag [V.own 2] 89)/\di (af 10 (aa yG i.w))/\di (ag [V.own 0] 89)/\di (af 10 (aa yG i.v))) (∃(e:Unit),aa y3 (wR i.seq (j8 0 i.v i.w))=aa y3 (rR i d)/\True))
open Classical
def zRq {l:List Quote} {k:Nat} {q:Quote} (b:Quote) (h:l[k]? =ar q):dN (l.take (k+1)) b=if q.dj=b.dj then(if q.dq>(dN (l.take k) b).1 then q.dq else(dN (l.take k) b).1,(dN (l.take k) b).2+1)else dN (l.take k) b:=by
 rw[dN,sm,h,D0,IP,EA,List.foldl_nil];rfl
def z1z (b:Quote) (l:List Quote):∀k,k<=l.length->0<=(dN (l.take k) b).2/\(dN (l.take k) b).2<=k
 |0,_=>⟨by rw[Hc];exact yg 0,by rw[Hc];exact yg 0⟩
 |k+1,h=>by
  obtain⟨q,hq⟩:=z7 (l:=l) (i:=k) oM;have:=z1z b l k oM;rw[zRq b hq];split
  ·dsimp only;constructor<;>omega
  ·constructor<;>omega
def y3l (i:zm) (h:Js.dp i):yTz i:=by
 obtain⟨hs,hl⟩:(i.s=1\/i.s=2)/\i.l.length<=1000000:=h;have Ab:(i.l.map zJ).length=i.l.length:=ia _;unfold yTz qT WL cK uK dI;rw[Ab];refine⟨i,rfl,rfl,⟨hs,hl⟩,λ_ _=>Cv.dp.mk (λc=> ?_) (λc=> ?_)⟩
 ·have e:qK i.l i.s=(⟨0,0,0⟩,ak):=by rw[qK,ej (by simpa using c)]
  rw[e];exact⟨(),gn⟩
 have e:qK i.l i.s=(⟨(zU i.l i.s).1.dj,(dN i.l (zU i.l i.s).1).1,(dN i.l (zU i.l i.s).1).2⟩,am):=by rw[qK,fc (by simpa using c)]
 rw[e];generalize (zU i.l i.s).1=b;refine⟨0,gm ⟨rfl,λk=>k<=i.l.length,λk=>i.l.length-k,my _,λk hk=>zH (λgr=> ?_) (λgr=> ?_)⟩⟩
 ·obtain⟨q,hq⟩:=z7 (l:=i.l) (i:=k) oM;have st:=zRq b hq;have bd:=z1z b i.l k hk;have hk:k<=i.l.length:=hk;refine⟨⟨oM,oM⟩,q.dj,q.dq,q.a.inst,q.a.side,q.b.inst,q.b.side,jq hq (by simp[zJ]) rfl,Cv.dp.mk (λe=>⟨k+1,?_⟩) (λe=>⟨k+1,?_⟩)⟩
  ·rw[st,fc (by simpa using e)];exact⟨rfl,by dsimp only;rw[ir (by omega)],qw oM,Aa ⟨rfl,Z9,Z9,trivial⟩⟩
  ·rw[st,ej (by simpa using e)];exact⟨rfl,rfl,qw oM,Aa ⟨rfl,Z9,Z9,trivial⟩⟩
 ·have hk:k<=i.l.length:=hk;obtain rfl:k=i.l.length:=by omega
  rw[By];exact⟨(),gn⟩
def ySa:Js.ok Tryz.prog 95:=gw mixed (dw z0y fg) 0 (λ_=>[]) (λi=>y0y i) [] Tryz.func95 y3l
def WS (p:fb) (B:List (List zI)):(yQ p B).length=p.count:=by rw[yQ,ia,List.length_range]
def yEa (p:fb) (B:List (List zI)) {j:Nat} (h:j<p.count):(yQ p B)[j]? =ar (G7 p B j 1,G7 p B j 2):=by
 rw[yQ,uq,KD h];rfl
def ZZ (a b:Lv):(a.dj==b.dj && (a.dq==b.dq && (a.count==b.count && am)))=decide (a=b):=by
 rw[IM,decide_eq_true_iff];obtain⟨p,q,c⟩:=a;obtain⟨p2,q2,c2⟩:=b;simp
def TE {v:Vw} {k:Nat} {b:Sd×Sd} (h:v[k]? =ar b):zD (v.map yG) k 0 10=ar [D.ro 3 (b.1.levels.map kg),.v (.int .i64 b.1.imp.dj),.v (.int .i64 b.1.imp.dq),.v (.int .i64 b.1.imp.count),.v (.bool b.1.has),.ro 3 (b.2.levels.map kg),.v (.int .i64 b.2.imp.dj),.v (.int .i64 b.2.imp.dq),.v (.int .i64 b.2.imp.count),.v (.bool b.2.has)]/\
 zD (v.map yG) k 0 5=ar [D.ro 3 (b.1.levels.map kg),.v (.int .i64 b.1.imp.dj),.v (.int .i64 b.1.imp.dq),.v (.int .i64 b.1.imp.count),.v (.bool b.1.has)]/\
 zD (v.map yG) k 5 5=ar [D.ro 3 (b.2.levels.map kg),.v (.int .i64 b.2.imp.dj),.v (.int .i64 b.2.imp.dq),.v (.int .i64 b.2.imp.count),.v (.bool b.2.has)]:=
 ⟨jq h (by simp[yG]) rfl,jq h (by simp[yG]) rfl,jq h (by simp[yG]) rfl⟩
def VT (q:Int):∀(A B:List VM),wR q (A++B)=wR q A++wR (q+A.length) B
 |[],B=>by simp[wR]
 |a::A,B=>by
  rw[tv,wR,wR,VT,iD,tv];congr 3;omega
def RU (d:sw) (A B:List VM):(d.add A).add B=d.add (A++B):=by
 rw[sw.add,sw.add,sw.add,VT,im,jd];congr 1;dsimp only;omega
def yXh (i:HG) (h:FM.dp i):yLu i:=by
 obtain⟨h1,h2,h3⟩:i.d.ok 1:=h;unfold yLu dI;have e:ap.wrap (i.d.seq+1)=i.d.seq+1:=ir oM;rw[e];exact⟨trivial,by rw[ia];omega,(),rfl,by rw[jk];rfl,trivial⟩
def yHr:FM.ok Tryz.prog 200:=gw mixed fg 0 (λ_=>[]) (λ_=>[]) [] Tryz.func200 yXh
def pX {s:Int}:∀(k:Nat) (X Y:List Lv),(vX s k X Y).length<=k
 |0,X,Y=>by rw[vX];exact km 0
 |k+1,[],[]=>by rw[vX];exact my _
 |k+1,x::X,[]=>by rw[vX,iD];have:=pX (s:=s) k X [];omega
 |k+1,[],y::Y=>by rw[vX,iD];have:=pX (s:=s) k [] Y;omega
 |k+1,x::X,y::Y=>by
  have h1:=pX (s:=s) k X (y::Y);have h2:=pX (s:=s) k (x::X) Y;have h3:=pX (s:=s) k X Y;rw[vX];split
  ·rw[iD];omega
  split
  ·rw[iD];omega
  rw[im];split
  ·simp only[tp];omega
  ·simp only[AE];omega
def Zo (n:Nat) (s:Int) (a b:Sd):(wL n s a b).length<=a.levels.length+b.levels.length+1:=by
 have:=pX (s:=s) (a.levels.length+b.levels.length) a.levels b.levels;rw[wL,im,ia];split
 ·rw[AE];omega
 ·simp only[tp];omega
def Vf:∀(n j:Nat) {v w:Vw} {a b:Sd×Sd},v[j]? =ar a->w[j]? =ar b->j8 n (v.take (j+1)) (w.take (j+1))=j8 n (v.take j) (w.take j)++(wL (n+j) 1 a.1 b.1++wL (n+j) 2 a.2 b.2)
 |n,0,x::v,y::w,a,b,h1,h2=>by
  obtain rfl:x=a:=by simpa using h1
  obtain rfl:y=b:=by simpa using h2
  simp[j8]
 |n,j+1,x::v,y::w,a,b,h1,h2=>by
  have:=Vf (n+1) j (v:=v) (w:=w) (a:=a) (b:=b) (by simpa using h1) (by simpa using h2);rw[vg,vg,vg,vg,j8,j8,this,jd,jd,jd,Dm n 1 j,Ha 1 j]
 |_,0,[],_,_,_,h1,_=>by simp at h1
 |_,j+1,[],_,_,_,h1,_=>by simp at h1
 |_,0,_::_,[],_,_,_,h2=>by simp at h2
 |_,j+1,_::_,[],_,_,_,h2=>by simp at h2
def S7 {v:Vw} {j:Nat} {a:Sd×Sd} (h:v[j]? =ar a):Vw.o7 (v.take (j+1))=Vw.o7 (v.take j)+(a.1.levels.length+a.2.levels.length):=by
 rw[Vw.o7,Vw.o7,sm,h,D0,jk,MI];simp
def yAb (v:Vw) (j:Nat):Vw.o7 (v.take j)<=Vw.o7 v:=by
 conv=>rhs;rw[<- Bz j v]
 rw[Vw.o7,Vw.o7,jk,MI];omega
def yIc (v w:Vw):∀j,j<=v.length->j<=w.length->(j8 0 (v.take j) (w.take j)).length<=Vw.o7 (v.take j)+Vw.o7 (w.take j)+2*j
 |0,_,_=>by rw[Hc,j8];exact my _;simp
 |j+1,h1,h2=>by
  obtain⟨a,ha⟩:=z7 (l:=v) (i:=j) oM;obtain⟨b,hb⟩:=z7 (l:=w) (i:=j) oM;have:=yIc v w j oM oM;have s1:=Zo (0+j) 1 a.1 b.1;have s2:=Zo (0+j) 2 a.2 b.2;rw[Vf 0 j ha hb,S7 ha,S7 hb,im,im];omega
def mJ (q:Int):∀M:List VM,(wR q M).length=M.length
 |[]=>rfl
 |m::M=>by rw[wR,iD,mJ,iD]
def MX (q:Int) (M:List VM) (m:VM):q+((M++[m]).length:Nat)=q+(M.length:Nat)+((1:Nat):Int):=by
 rw[im,AE];omega
def MW (o:List eL) (q:Int) (M:List VM) (m:VM):(o++wR q (M++[m])).map y3=((o++wR q M)++wR (q+(M.length:Nat)) [m]).map y3:=by rw[VT,jd]
def Ds (x:Lv) (X:List Lv):zD ((x::X).map kg) 0 0 1=ar [D.v (.int .i64 x.dj)]/\zD ((x::X).map kg) 0 0 3=ar [D.v (.int .i64 x.dj),.v (.int .i64 x.dq),.v (.int .i64 x.count)]:=⟨rfl,rfl⟩
def yLi (s:Int) (k:Nat):vX s k [] []=[]:=by cases k<;>rw[vX]
def yXa (i:Ai) (h:FN.dp i):yGj i:=by
 obtain⟨d,n,s,⟨al,ai,ah⟩,⟨bl,bi,bh⟩⟩:=i;obtain⟨h1,h2,h3⟩:sw.ok d (al.length+bl.length+1):=h;unfold yGj Xb XB WK Xj Td XP rO XR pB jA cG dZ a8 g8 cH dW mI dI;refine⟨⟨al,bl,[]⟩,rfl,rfl,by simp,by simp[wR],λj=>∃k,j.x.length+j.y.length<=k/\(vX s (al.length+bl.length) al bl).map (λl=>(⟨n,s,l,ak⟩:VM))=j.M++(vX s k j.x j.y).map (λl=>(⟨n,s,l,ak⟩:VM))/\k+j.M.length<=al.length+bl.length,λj=>j.x.length+j.y.length,⟨al.length+bl.length,km _,rfl,km _⟩,?_⟩;rintro⟨x,y,M⟩ ⟨k,hk,hM,hl⟩;dsimp only at hk hM hl ⊢;have hx:(x.map kg).length=x.length:=ia _;have hy:(y.map kg).length=y.length:=ia _;have M0:sw.ok ⟨d.seq+(M.length:Nat),d.out++wR d.seq M⟩ 1:=⟨Z9,Z9,by dsimp only;rw[im,mJ];omega⟩
 rw[hx,hy,ir (by omega)];refine zH (λc=> ?_) (λc=> ?_)
 ·obtain⟨k',rfl⟩:∃k',k=k'+1:=⟨k-1,oM⟩
  rcases x with _|⟨a,X⟩
  ·rcases y with _|⟨b,Y⟩
   ·exact absurd c (by simp)
   refine⟨ak,λt=>t=ak,Cv.dp.mk (λe=> ?_) (λ_=>Cv.dp.mk (λe=>absurd e (by simp)) (λ_=>⟨ak,rfl,rfl,gn⟩)),?_⟩
   ·exfalso;simp at e;omega
   rintro _ rfl;refine Cv.dp.mk (λc=>absurd c Z8) (λ_=>⟨ak,λt=>t=am,Cv.dp.mk (λ_=>⟨am,rfl,rfl,gn⟩) (λe=>absurd e (by simp)),?_⟩);rintro _ rfl;refine Cv.dp.mk (λ_=> ?_) (λc=>absurd c Z8);rw[iD]at hk;refine⟨⟨Z8,by rw[iD];omega⟩,b.dj,b.dq,b.count,(Ds b Y).2,⟨_,⟨n,s,b,ak⟩⟩,rfl,rfl,rfl,rfl,rfl,rfl,rfl,rfl,M0,λ_ _=>⟨⟨Z8,by rw[iD];omega⟩,⟨[],Y,M++[⟨n,s,b,ak⟩]⟩,rfl,rfl,MX _ _ _,MW _ _ _ _,⟨k',Z9,?_,by dsimp only;rw[im,AE];omega⟩,by dsimp only;rw[iD];omega,gn⟩⟩;rw[hM,vX,jo,jd];rfl
  rcases y with _|⟨b,Y⟩
  ·refine⟨ak,λt=>t=am,Cv.dp.mk (λ_=>⟨am,rfl,rfl,gn⟩) (λe=>absurd e (by simp)),?_⟩;rintro _ rfl;refine Cv.dp.mk (λ_=> ?_) (λc=>absurd c Z8);rw[iD]at hk;refine⟨⟨Z8,by rw[iD];omega⟩,a.dj,(Ds a X).1,⟨_,⟨n,s,⟨a.dj,0,0⟩,ak⟩⟩,rfl,rfl,rfl,rfl,rfl,rfl,rfl,rfl,M0,λ_ _=>⟨⟨Z8,by rw[iD];omega⟩,⟨X,[],M++[⟨n,s,⟨a.dj,0,0⟩,ak⟩]⟩,rfl,rfl,MX _ _ _,MW _ _ _ _,⟨k',by dsimp only;simp only[tp]at hk ⊢;omega,?_,by dsimp only;rw[im,AE];omega⟩,by dsimp only;rw[iD];omega,gn⟩⟩;rw[hM,vX,jo,jd];rfl
  rw[iD,iD]at hk;have la:(0:Int)<=0/\(0:Int)<((a::X).length:Nat):=⟨Z8,by rw[iD];omega⟩
  have lb:(0:Int)<=0/\(0:Int)<((b::Y).length:Nat):=⟨Z8,by rw[iD];omega⟩
  have la1:(0:Int)<=1/\(1:Int)<=((a::X).length:Nat):=⟨Z8,by rw[iD];omega⟩
  have lb1:(0:Int)<=1/\(1:Int)<=((b::Y).length:Nat):=⟨Z8,by rw[iD];omega⟩
  refine⟨ak,λt=>t=jy s a.dj b.dj,Cv.dp.mk (λe=> ?_) (λ_=>Cv.dp.mk (λ_=>⟨la,a.dj,(Ds a X).1,lb,b.dj,(Ds b Y).1,⟨s,a.dj,b.dj⟩,rfl,rfl,rfl,trivial,λ_ _=>⟨_,rfl,rfl,gn⟩⟩) (λe=> ?_)),?_⟩
  ·exfalso;simp at e;omega
  ·exfalso;simp at e
  rintro _ rfl;refine Cv.dp.mk (λc1=> ?_) (λc1=> ?_)
  ·refine⟨la,a.dj,(Ds a X).1,⟨_,⟨n,s,⟨a.dj,0,0⟩,ak⟩⟩,rfl,rfl,rfl,rfl,rfl,rfl,rfl,rfl,M0,λ_ _=>⟨la1,⟨X,b::Y,M++[⟨n,s,⟨a.dj,0,0⟩,ak⟩]⟩,rfl,rfl,MX _ _ _,MW _ _ _ _,⟨k',by dsimp only;rw[iD];omega,?_,by dsimp only;rw[im,AE];omega⟩,by dsimp only;rw[iD,iD];omega,gn⟩⟩;rw[hM,vX,fc c1,jo,jd];rfl
  have c1:¬jy s a.dj b.dj=am:=by simp[c1]
  refine⟨ak,λt=>t=jy s b.dj a.dj,Cv.dp.mk (λe=> ?_) (λ_=>⟨lb,b.dj,(Ds b Y).1,la,a.dj,(Ds a X).1,⟨s,b.dj,a.dj⟩,rfl,rfl,rfl,trivial,λ_ _=>⟨_,rfl,rfl,gn⟩⟩),?_⟩
  ·exfalso;simp at e;omega
  rintro _ rfl;refine Cv.dp.mk (λc2=> ?_) (λc2=> ?_)
  ·refine⟨lb,b.dj,b.dq,b.count,(Ds b Y).2,⟨_,⟨n,s,b,ak⟩⟩,rfl,rfl,rfl,rfl,rfl,rfl,rfl,rfl,M0,λ_ _=>⟨lb1,⟨a::X,Y,M++[⟨n,s,b,ak⟩]⟩,rfl,rfl,MX _ _ _,MW _ _ _ _,⟨k',by dsimp only;rw[iD];omega,?_,by dsimp only;rw[im,AE];omega⟩,by dsimp only;rw[iD,iD];omega,gn⟩⟩;rw[hM,vX,ej c1,fc c2,jo,jd];rfl
  have c2:¬jy s b.dj a.dj=am:=by simp[c2]
  by_cases Eb:a=b
  ·refine⟨⟨_,_⟩,rfl,rfl,λD=>D=⟨d.seq+(M.length:Nat),d.out++wR d.seq M⟩,⟨ak,λt=>t=ak,⟨la,a.dj,a.dq,a.count,(Ds a X).2,lb,b.dj,b.dq,b.count,(Ds b Y).2,_,rfl,by rw[ZZ,lg Eb];rfl,gn⟩,?_⟩,?_⟩
   ·rintro _ rfl;exact Cv.dp.mk (λc=>absurd c Z8) (λ_=>⟨_,rfl,rfl,rfl,gn⟩)
   rintro _ rfl;refine⟨la1,lb1,⟨X,Y,M⟩,iM ⟨rfl,⟨k',Z9,?_,Z9⟩,by dsimp only;rw[iD,iD];omega,gn⟩⟩;rw[hM,vX,ej c1,ej c2,fc Eb];rfl
  ·refine⟨⟨_,_⟩,rfl,rfl,λD=>D=sw.add ⟨d.seq+(M.length:Nat),d.out++wR d.seq M⟩ [⟨n,s,b,ak⟩],⟨ak,λt=>t=am,⟨la,a.dj,a.dq,a.count,(Ds a X).2,lb,b.dj,b.dq,b.count,(Ds b Y).2,_,rfl,by rw[ZZ,kr Eb];rfl,gn⟩,?_⟩,?_⟩
   ·rintro _ rfl;exact Cv.dp.mk (λ_=>⟨lb,b.dj,b.dq,b.count,(Ds b Y).2,⟨_,⟨n,s,b,ak⟩⟩,rfl,rfl,rfl,rfl,rfl,rfl,rfl,rfl,M0,λ_ _=>⟨_,rfl,rfl,rfl,gn⟩⟩) (λc=>absurd c Z8)
   rintro _ rfl;refine⟨la1,lb1,⟨X,Y,M++[⟨n,s,b,ak⟩]⟩,rfl,rfl,MX _ _ _,MW _ _ _ _,⟨k',Z9,?_,by dsimp only;rw[im,AE];omega⟩,by dsimp only;rw[iD,iD];omega,gn⟩;rw[hM,vX,ej c1,ej c2,ej Eb,jk,jd];rfl
 obtain rfl:x=[]:=xu oM;obtain rfl:y=[]:=xu oM;rw[yLi,Ct,oL]at hM;rw[ZZ];refine⟨ak,λt=>t=Ol ⟨al,ai,ah⟩ ⟨bl,bi,bh⟩,Cv.dp.mk (λe=>⟨am,rfl,?_,gn⟩) (λe=>⟨_,rfl,?_,gn⟩),?_⟩
 ·have e:ai≠bi:=by simpa using e
  rw[Ol];simp[e]
 ·have e:ai=bi:=by simpa using e
  rw[Ol,e];cases ah<;>cases bh<;>simp
 rintro _ rfl;refine Cv.dp.mk (λe=>⟨bi,rfl,rfl,rfl,λl=>l=Mw ⟨bl,bi,bh⟩,Cv.dp.mk (λe2=>⟨lv0,rfl,rfl,rfl,?_,gn⟩) (λe2=>⟨bi,rfl,rfl,rfl,?_,gn⟩),?_⟩) (λe=> ?_)
 ·rw[Mw,ej (by simpa using e2)]
 ·rw[Mw,fc (by simpa using e2)]
 ·rintro _ rfl;have D7:wL n s ⟨al,ai,ah⟩ ⟨bl,bi,bh⟩=M++[⟨n,s,Mw ⟨bl,bi,bh⟩,am⟩]:=by rw[wL,fc e,hM]
  rw[D7];exact⟨⟨_,⟨n,s,Mw ⟨bl,bi,bh⟩,am⟩⟩,rfl,rfl,rfl,rfl,rfl,rfl,rfl,rfl,M0,λ_ _=>⟨(),MX _ _ _,MW _ _ _ _,trivial⟩⟩
 ·have D7:wL n s ⟨al,ai,ah⟩ ⟨bl,bi,bh⟩=M:=by rw[wL,ej (by simp[e]),hM,oL]
  rw[D7];exact⟨(),rfl,rfl,trivial⟩
def yNu:FN.ok Tryz.prog 164:=gw mixed (dw yHr (dw zUn fg)) 0 (λ_=>yZk) (λi=>yXv i) [] Tryz.func164 yXa
def y1o (i:Jn) (h:JW.dp i):yTh i:=by
 obtain⟨hvw,⟨s1,s2⟩,l1,l2,hn⟩:i.v.length=i.w.length/\(-4000000000000000000<=i.seq/\i.seq<=4000000000000000000)/\Vw.o7 i.v<=100000000/\Vw.o7 i.w<=100000000/\i.v.length<=1000000:=h;have hmx:(i.v.map yG).length=i.v.length:=ia _;have hmy:(i.w.map yG).length=i.w.length:=ia _;unfold yTh fP cG dZ pS S0 rR W3 dI;rw[hmx,hmy];refine Cv.dp.mk (λc=> ?_) (λ_=> ?_)
 ·have c:(i.v.length:Int)≠i.w.length:=by simpa using c
  omega
 refine⟨0,rfl,by simp[j8],by simp[j8,wR],λj=>j<=i.v.length,λj=>i.v.length-j,my _,λj hj=>zH (λe=> ?_) (λe=> ?_)⟩
 ·have hj:j<=i.v.length:=hj;obtain⟨a,ha⟩:=z7 (l:=i.v) (i:=j) oM;obtain⟨b,hb⟩:=z7 (l:=i.w) (i:=j) oM;have hd:=yIc i.v i.w j hj oM;have t1:=S7 ha;have t2:=S7 hb;have u1:=yAb i.v (j+1);have u2:=yAb i.w (j+1);have q1:=Zo j 1 a.1 b.1;have hvt:=Vf 0 j ha hb;rw[nw]at hvt;have bdv:(0:Int)<=j/\(j:Int)<(i.v.length:Nat):=⟨oM,e⟩
  have bdw:(0:Int)<=j/\(j:Int)<(i.w.length:Nat):=⟨oM,oM⟩
  obtain⟨D,hD⟩:∃D:sw,D=sw.add ⟨i.seq,[]⟩ (j8 0 (i.v.take j) (i.w.take j)):=⟨_,rfl⟩
  have hDs:D.seq=i.seq+((j8 0 (i.v.take j) (i.w.take j)).length:Nat):=by rw[hD];rfl
  have hDo:D.out=[]++wR i.seq (j8 0 (i.v.take j) (i.w.take j)):=by rw[hD];rfl
  have hDl:D.out.length=(j8 0 (i.v.take j) (i.w.take j)).length:=by rw[hDo,yh,mJ]
  refine⟨⟨Z8,Z8⟩,1,rfl,bdv,_,_,_,_,_,(TE ha).2.1,bdw,_,_,_,_,_,(TE hb).2.1,⟨D,j,1,a.1,b.1⟩,rfl,rfl,rfl,rfl,rfl,rfl,rfl,rfl,rfl,rfl,rfl,rfl,hDs,by rw[hDo],⟨Z9,Z9,Z9⟩,λ_ _=>⟨⟨Z8,Z8⟩,2,rfl,bdv,_,_,_,_,_,(TE ha).2.2,bdw,_,_,_,_,_,(TE hb).2.2,⟨D.add (wL j 1 a.1 b.1),j,2,a.2,b.2⟩,rfl,rfl,rfl,rfl,rfl,rfl,rfl,rfl,rfl,rfl,rfl,rfl,rfl,rfl,⟨by simp only[sw.add];omega,by simp only[sw.add];omega,by simp only[sw.add];rw[im,mJ];omega⟩,λ_ _=>⟨j+1,qw oM,?_,?_,Z9,Z9,gn⟩⟩⟩
  ·show(sw.add ⟨i.seq,[]⟩ (j8 0 (i.v.take (j+1)) (i.w.take (j+1)))).seq=((D.add (wL j 1 a.1 b.1)).add (wL j 2 a.2 b.2)).seq;rw[hvt,hD,RU,RU]
  ·show(sw.add ⟨i.seq,[]⟩ (j8 0 (i.v.take (j+1)) (i.w.take (j+1)))).out.map y3=((D.add (wL j 1 a.1 b.1)).add (wL j 2 a.2 b.2)).out.map y3;rw[hvt,hD,RU,RU]
 ·have hj:j<=i.v.length:=hj;rw[og (by omega),og (by omega)];exact⟨(),rfl,trivial⟩
def yJo:JW.ok Tryz.prog 114:=gw mixed (dw yNu fg) 1 (λ_=>[]) (λi=>y6d i) [] Tryz.func114 y1o
def yTv:∀{l:List zI} {v:Lv},v∈wy l->(1<=v.count/\v.count<=l.length)/\∃o∈l,o.dj=v.dj
 |[],v,h=>by cases h
 |o::l,v,h=>by
  have ih:∀v∈wy l,(1<=v.count/\v.count<=l.length)/\∃o∈l,o.dj=v.dj:=λv hv=>yTv hv
  rw[wy]at h;rw[iD];split at h
  ·rw[vf]at h;subst h;exact⟨Z9,o,ji,rfl⟩
  ·rename_i w ws e;rw[e]at ih;have hw:=ih w ji;split at h
   ·rename_i ep;rcases mf.1 h with rfl|h
    ·exact⟨Z9,o,ji,ep.symm⟩
    ·obtain⟨a,x,hx,hp⟩:=ih v (jw _ h);exact⟨oM,x,jw _ hx,hp⟩
   ·rcases mf.1 h with rfl|h
    ·exact⟨Z9,o,ji,rfl⟩
    ·obtain⟨a,x,hx,hp⟩:=ih v h;exact⟨oM,x,jw _ hx,hp⟩
def yAr:∀l:List zI,(wy l).length<=l.length
 |[]=>km 0
 |o::l=>by
  have ih:=yAr l;rw[wy,iD];cases e:wy l with
  |nil=>simp
  |cons w ws=>
   rw[e,iD]at ih;dsimp only;split
   ·rw[iD];omega
   ·rw[iD,iD];omega
def yXb {s:Int} {L:List Lv} (h:TQ s L) (hp:∀l∈L,1<=l.dq/\1<=l.count) (i:Nat):xg s L i:=by
 intro a ha;have hm:=hp a (lr ha);refine⟨hm.1,hm.2,?_⟩;rintro j b rfl hb;obtain⟨h1,e1⟩:=jl.1 ha;obtain⟨h2,e2⟩:=jl.1 hb;have:=(List.pairwise_iff_getElem.1 h) j (j+1) h2 h1 (Kz j);rw[e1,e2]at this;exact this
def yBm {p:fb} {B:List (List zI)} (h:tr p B) {k:Nat} {L:List zI} (hL:B[k]? =ar L) {s:Int} (hs:s=1\/s=2):
 (∀i,xg s (gL L s) i)/\(gL L s).length<=255/\∀l∈gL L s,(1<=l.dq/\l.dq<=250000000)/\l.fit:=by
 obtain⟨h1,h2,h3⟩:=h.od k L hL;have hf:(L.filter λo=>decide (o.side=s)).length<=L.length:=Hg _ _;have hl:=yAr (L.filter λo=>decide (o.side=s));have uz:∀l∈gL L s,(1<=l.dq/\l.dq<=250000000)/\(1<=l.count/\l.count<=250)/\(-2000000<=l.dj/\l.dj<=2000000):=λl hm=>by
  have q:=TA (λo ho=>h1 o (ve.1 ho).1) hm;obtain⟨c,o,ho,e⟩:=yTv hm;have hp:=h.ok.xk hL o (ve.1 ho).1;rw[e]at hp;exact⟨oM,oM,hp⟩
 refine⟨yXb (ySs h hL hs).1 λl hm=>⟨(uz l hm).1.1,(uz l hm).2.1.1⟩,by rw[gL];omega,λl hm=> ?_⟩;obtain⟨a,b,c⟩:=uz l hm;exact⟨a,⟨oM,oM⟩,⟨oM,oM⟩,⟨oM,oM⟩⟩
def zZl {p:fb} {B:List (List zI)} (h:tr p B) {k:Nat} {L:List zI} (hL:B[k]? =ar L) {s:Int} (hs:s=1\/s=2) (hb:(iA L s).2=am):1<=(iA L s).1.dq/\(iA L s).1.dq<=250000000:=by
 have hm:(iA L s).1∈gL L s:=by
  rw[iA]at hb ⊢;split at hb
  ·cases hb
  ·rename_i v vs e;rw[e];exact ji
 exact((yBm h hL hs).2.2 _ hm).1
def yUd {p:fb} {B:List (List zI)} (h:tr p B) {i s:Int} (hi:0<=i/\i<(B.map kC).length) (hs:s=1\/s=2) (hh:((B.map kC).getD i.toNat j').has s=am):1<=((B.map kC).getD i.toNat j').dq s/\((B.map kC).getD i.toNat j').dq s<=250000000:=by
 rw[ia]at hi;obtain⟨L,hL⟩:=z7 (l:=B) (i:=i.toNat) oM;have e:(B.map kC).getD i.toNat j'=kC L:=by rw[np,uq,hL];rfl
 rw[e]at hh ⊢;obtain⟨t1,t2,t3,t4,t5,t6⟩:=Sp L;rcases hs with rfl|rfl
 ·rw[jr.has,fc rfl,t3]at hh;rw[jr.dq,fc rfl,t2];exact zZl h hL (.inl rfl) hh
 ·rw[jr.has,ej (by decide),t6]at hh;rw[jr.dq,ej (by decide),t5];exact zZl h hL (.inr rfl) hh
def yRo {p:fb} {B:List (List zI)} (h:tr p B) {n s:Int} (hs:s=1\/s=2) {q:Quote} (hq:q∈xY ⟨p,B.map kC,n⟩ s):(1<=q.dq/\q.dq<=250000000)/\(-2000000<=q.dj/\q.dj<=2000000):=by
 rw[xY,ve]at hq;obtain⟨ok,-⟩:=z8t h.ok.pc (by rw[ia,h.ok.bl]) hs hq.1;have qa:=yUd h ok.a ok.sa ok.ha;have qb:=yUd h ok.b ok.sb ok.hb;have hp:p.dj n q.dj=0:=by simpa using hq.2
 exact⟨by rw[ok.dq];omega,eX h.ok.pc hp⟩
def W5 (b:Quote) {M:Int}:∀(l:List Quote) (a:Int×Int),(∀q∈l,1<=q.dq/\q.dq<=M)->1<=a.1->a.1<=M->
 (1<=(l.foldl (λa q=>if q.dj=b.dj then(if q.dq>a.1 then q.dq else a.1,a.2+1)else a) a).1/\(l.foldl (λa q=>if q.dj=b.dj then(if q.dq>a.1 then q.dq else a.1,a.2+1)else a) a).1<=M)/\
 a.2<=(l.foldl (λa q=>if q.dj=b.dj then(if q.dq>a.1 then q.dq else a.1,a.2+1)else a) a).2/\(l.foldl (λa q=>if q.dj=b.dj then(if q.dq>a.1 then q.dq else a.1,a.2+1)else a) a).2<=a.2+l.length/\
 (b∈l->a.2+1<=(l.foldl (λa q=>if q.dj=b.dj then(if q.dq>a.1 then q.dq else a.1,a.2+1)else a) a).2)
 |[],a,_,h1,h2=>⟨⟨h1,h2⟩,yg _,by simp,λh=>by cases h⟩
 |q::l,a,hq,h1,h2=>by
  have q0:=hq q ji;rw[EA,iD];by_cases e:q.dj=b.dj
  ·rw[fc e];obtain⟨r1,r2,r3,r4⟩:=W5 b (M:=M) l (if q.dq>a.1 then q.dq else a.1,a.2+1) (λx hx=>hq x (jw _ hx)) (by dsimp only;split<;>omega) (by dsimp only;split<;>omega);dsimp only at r2 r3;exact⟨r1,oM,oM,λ_=>r2⟩
  ·rw[ej e];obtain⟨r1,r2,r3,r4⟩:=W5 b (M:=M) l a (λx hx=>hq x (jw _ hx)) h1 h2;refine⟨r1,r2,oM,λhb=> ?_⟩;rcases mf.1 hb with rfl|hb
   ·exact absurd rfl e
   ·exact r4 hb
def yHs {l:List Quote} {s:Int} (hl:l.length<=100) (h:∀q∈l,(1<=q.dq/\q.dq<=250000000)/\(-2000000<=q.dj/\q.dj<=2000000)):
 ((qK l s).2=am->1<=(qK l s).1.dq/\1<=(qK l s).1.count)/\((qK l s).2=ak->(qK l s).1=⟨0,0,0⟩)/\(qK l s).1.fit:=by
 by_cases e:(zU l s).2=am
 ·have hm:=WY e;have hb:=h _ hm;have:=W5 (zU l s).1 (M:=250000000) l ((zU l s).1.dq,0) (λq hq=>(h q hq).1) hb.1.1 hb.1.2;have e2:qK l s=(⟨(zU l s).1.dj,(dN l (zU l s).1).1,(dN l (zU l s).1).2⟩,am):=by rw[qK,fc e]
  rw[e2];rw[<- dN]at this;obtain⟨r1,r2,r3,r4⟩:=this;have r4:=r4 hm;dsimp only at r2 r3 r4 ⊢;exact⟨λ_=>⟨r1.1,oM⟩,λx=>(by cases x),⟨Z9,Z9⟩,⟨Z9,Z9⟩,⟨Z9,Z9⟩⟩
 ·have e2:qK l s=(⟨0,0,0⟩,ak):=by rw[qK,ej e]
  rw[e2];exact⟨λx=>(by cases x),λ_=>rfl,⟨Z8,Z8⟩,⟨Z8,Z8⟩,⟨Z8,Z8⟩⟩
def rU {p:fb} {B:List (List zI)} (h:tr p B):bQ (yQ p B)/\y5h (yQ p B)/\Mu (yQ p B):=by
 have hc:=xR p;have hlen:=WS p B;have oO:∀k,k<p.count->∀s,s=1\/s=2->nn s (G7 p B k s)/\(G7 p B k s).fit:=λk hk s hs=>by
  obtain⟨L,hL⟩:=z7 (l:=B) (i:=k) (by rw[h.ok.bl];exact hk);have e:B.getD k []=L:=zT hL;obtain⟨a1,a2,a3⟩:=yBm h hL hs;obtain⟨b1,b2,b3⟩:=yHs (s:=s) (zLa ⟨p,B.map kC,k⟩ s) (λq hq=>yRo h hs hq);rw[G7,e];exact⟨⟨a1,a2,b1,b2⟩,λx hx=>(a3 x hx).2,b3⟩
 have tf:∀b∈yQ p B,∃k,k<p.count/\b=(G7 p B k 1,G7 p B k 2):=λb hb=>by
  rw[yQ]at hb;obtain⟨k,hk,rfl⟩:=pk.1 hb;exact⟨k,BT.1 hk,rfl⟩
 refine⟨⟨λb hb=> ?_,oM⟩,λb hb=> ?_,⟨oM,λb hb=> ?_⟩⟩
 ·obtain⟨k,hk,rfl⟩:=tf b hb;exact⟨(oO k hk 1 (.inl rfl)).1,(oO k hk 2 (.inr rfl)).1⟩
 ·obtain⟨k,hk,rfl⟩:=tf b hb;exact⟨(oO k hk 1 (.inl rfl)).2,(oO k hk 2 (.inr rfl)).2⟩
 ·obtain⟨k,hk,rfl⟩:=tf b hb;have a:=(oO k hk 1 (.inl rfl)).1.2.1;have c:=(oO k hk 2 (.inr rfl)).1.2.1;dsimp only;omega
structure Nk (p:fb) (v:Vw):Prop where
 r:bQ v
 f:y5h v
 s:Mu v
 len:v.length=p.count
def RO {p:fb} {B:List (List zI)} (h:tr p B):Nk p (yQ p B):=⟨(rU h).1,(rU h).2.1,(rU h).2.2,WS p B⟩
def yGa {p:fb} {v:Vw} (h:Nk p v):Vw.o7 v<=510*v.length:=by
 have:∀{v:Vw},(∀b∈v,nn 1 b.1/\nn 2 b.2)->Vw.o7 v<=510*v.length:=by
  intro v
  induction v with
  |nil=>intro _;exact km _
  |cons a v ih=>
   intro h;have ha:=h a ji;have:=ih λb hb=>h b (jw _ hb)
   have h1:=ha.1.2.1;have h2:=ha.2.2.1;rw[Vw.o7]at this ⊢;rw[jo,qv,iD];omega
 exact this h.r.1
@[reducible] def y7r (v:Vw):ff:= .own 180 10 (v.map yG)
@[reducible] def BR (v:Vw):ff:= .ja 10 (v.map yG)
def FE:fy:=fj Nq (λi=>[nu i.p,.nm 0 0]) (λi=>[zE i.s]) (λi=>i.s.fk i.p i.B/\iQ i.p i.B) (λ_=> .agg [.own 1]) (λi=>[zE i.s,y7r (yQ i.p i.B)])
def Rk:fy:=fj uk (λi=>[.nm 0 0,zA i.s,oy 1 (bE i.b)]) (λ_=>[.gone]) (λi=>i.b.length<=1099511627776) (λi=>zA (zL i.s i.b).2) (λ_=>[.gone])
def LM:fy:=fj Gt (λ_=>[.nm 0 0]) (λg=>UU g) (λ_=>True) (λ_=> .nm 1 0) (λg=>UU g)
def LC:fy:=fj ic (λ_=>[.nm 0 0]) (λm=>Bu m) (λ_=>True) (λ_=> .nm 1 0) (λm=>Bu m)
structure En where
 p:fb
 v:Vw
 q:Int
 R:List (List UInt8)
@[reducible] def Eu:Nat:=106
def GP (e:En) (r l:Nat):ff:= .cells [sV e.p.code,.own 5,zA e.p.tick,zA e.p.low,zA e.p.high,zA e.p.wide,zA e.p.dr,zA e.p.top,zA e.p.least,zA e.p.part,.own 6,.nm 1 0,.nm 2 0,.own l,zA e.q,.own r] Eu
structure Es where
 B:List (List zI)
 U:List Int
 W:List (Int×Int)
 q:Int
 R:List (List UInt8)
def Es.en (x:Es) (p:fb):En:=⟨p,yQ p x.B,x.q,x.R⟩
def uF (s:Int) (b:List UInt8):List UInt8:=jf s::b
def Es.X (x:Es) (p:fb) (s:Int) (b:List UInt8):PB:=nP p x.B x.U x.W s b
def Es.M (x:Es) (p:fb) (s:Int) (b:List UInt8):List VM:=j8 0 (yQ p x.B) (yQ p (x.X p s b).B)
def Es.ed (x:Es) (p:fb) (s:Int) (b:List UInt8):Es:=⟨(x.X p s b).B,(x.X p s b).U,(x.X p s b).W,x.q+(x.M p s b).length,x.R++[uF s b]⟩
structure xa where
 o:ic
 x:Es
 p:fb
 s:Int
 b:List UInt8
def xa.g (i:xa):Gt:=⟨i.o,i.x.W⟩
@[reducible] def xa.ok (i:xa):Prop:=(i.o.fk i.p i.x.B i.x.U/\iQ i.p i.x.B)/\i.b.length<=1048576/\(0<=i.s/\i.s<8)/\(0<=i.x.q/\i.x.q<=1000000000000000000)/\i.x.R.length<=1000000
def xa.Y (i:xa):Es:=i.x.ed i.p i.s i.b
def xa.N (i:xa):List eL:=wR i.x.q (i.x.M i.p i.s i.b)
def xa.O (i:xa):List (Int×fk):=(i.x.X i.p i.s i.b).O
def xa.rows (i:xa):List ff:=[GP (i.x.en i.p) 4 7,.gone,iq i.g,.gone,yk i.x.R,.ja 1 (iE i.p.dk),.ja 1 (iE i.p.settle),BR (yQ i.p i.x.B)]
def edC:fy where
 ι:=xa
 pat:=λi=>[.nm 0 0,zA i.s,oy 1 (bE i.b)]
 pre:=λi=>i.rows
 dp:=λi=>i.ok
 alts:=λi=>[{o:=ic,res:=λ_=> .agg [.own 10,.own 11],post:=λo=>[GP (i.Y.en i.p) 8 9,.gone,iq ⟨o,i.Y.W⟩,.gone,.gone,.ja 1 (iE i.p.dk),.ja 1 (iE i.p.settle),.gone,yk i.Y.R,BR (yQ i.p i.Y.B),Kr i.O,My i.N],rel:=λo=>o.fk i.p i.Y.B i.Y.U}]
def yMz (i:Nq):Prop:=
 ∃(a:fb),sb a.code=sb i.p.code/\iE a.dk=iE i.p.dk/\a.tick=i.p.tick/\a.low=i.p.low/\a.high=i.p.high/\a.wide=i.p.wide/\a.dr=i.p.dr/\a.top=i.p.top/\a.least=i.p.least/\a.part=i.p.part/\iE a.settle=iE i.p.settle/\(zW a)/\∀(b:Unit),True->dp (a.check !=0) (∃(c:Unit),di (zE i.s)/\aa yG (yQ i.p i.B)=[]/\True) (∃(c:gl),zE c=zE i.s/\(dU c)/\∀(d:Unit),True->∃(e:fb),sb e.code=sb i.p.code/\iE e.dk=iE i.p.dk/\e.tick=i.p.tick/\e.low=i.p.low/\e.high=i.p.high/\e.wide=i.p.wide/\e.dr=i.p.dr/\e.top=i.p.top/\e.least=i.p.least/\e.part=i.p.part/\iE e.settle=iE i.p.settle/\(zW e)/\∀(f:Unit),True->∃(g:Nat),(↑g:Int)=0/\aa yG (ab g (yQ i.p i.B))=[]/\aa z6 (aa kC i.B)=aa z6 c.fa/\∃(h:Nat->Prop),∃(j:Nat->Nat),h g/\∀(k:Nat),h k->dp (decide ((↑k:Int)<(↑e.count:Int))) (((0:Int)<=(0:Int)/\0<(↑(2:Nat):Int))/\∃(l:Int),zD [[dI 1],[dI 2]] (ao 0) 0 1=ar [dI l]/\∃(m:BJ),m.inst=(↑k:Int)/\zC m.sd=l/\zE m.s=zE c/\(m.s.fk m.p m.B/\m.B.length<=1000)/\∀(n:Unit),True->∃(p:AP),sb p.i.p.code=sb i.p.code/\iE p.i.p.dk=iE i.p.dk/\p.i.p.tick=i.p.tick/\p.i.p.low=i.p.low/\p.i.p.high=i.p.high/\p.i.p.wide=i.p.wide/\p.i.p.dr=i.p.dr/\p.i.p.top=i.p.top/\p.i.p.least=i.p.least/\p.i.p.part=i.p.part/\iE p.i.p.settle=iE i.p.settle/\aa z6 p.i.fa=aa z6 (aa kC i.B)/\p.i.inst=(↑k:Int)/\zC p.s=l/\(kL p)/\∀(q:Unit),True->∃(r:zm),aa zJ r.l=aa zJ (xY p.i (zC p.s))/\r.s=l/\(cK r)/\∀(s:Unit),True->(fP)/\∃(t:Int),zD [[dI 1],[dI 2]] (ap.wrap ((0:Int)+(1:Int))).toNat 0 1=ar [dI t]/\∃(u:BJ),u.inst=(↑k:Int)/\zC u.sd=t/\zE u.s=zE m.s/\(u.s.fk u.p u.B/\u.B.length<=1000)/\∀(v:Unit),True->∃(w:AP),sb w.i.p.code=sb i.p.code/\iE w.i.p.dk=iE i.p.dk/\w.i.p.tick=i.p.tick/\w.i.p.low=i.p.low/\w.i.p.high=i.p.high/\w.i.p.wide=i.p.wide/\w.i.p.dr=i.p.dr/\w.i.p.top=i.p.top/\w.i.p.least=i.p.least/\w.i.p.part=i.p.part/\iE w.i.p.settle=iE i.p.settle/\aa z6 w.i.fa=aa z6 (aa kC i.B)/\w.i.inst=(↑k:Int)/\zC w.s=t/\(kL w)/\∀(x:Unit),True->∃(y:zm),aa zJ y.l=aa zJ (xY w.i (zC w.s))/\y.s=t/\(cK y)/\∀(z:Unit),True->((aa yG (ab k (yQ i.p i.B))).length+1)*(112:Nat)<=(140737488355328:Nat)/\∃(jb:Nat),(↑jb:Int)=ap.wrap ((↑k:Int)+1)/\aa yG (ab jb (yQ i.p i.B))=aa yG (ab k (yQ i.p i.B))++[[D.ro 3 (aa kg (aE m)),dI ((qK r.l r.s).fst.dj),dI ((qK r.l r.s).fst.dq),dI ((qK r.l r.s).fst.count),D.v (.bool (qK r.l r.s).snd),D.ro 3 (aa kg (aE u)),dI ((qK y.l y.s).fst.dj),dI ((qK y.l y.s).fst.dq),dI ((qK y.l y.s).fst.count),D.v (.bool (qK y.l y.s).snd)]]/\di (af 6 (aa z6 (aa kC i.B)))/\h jb/\j jb<j k/\zE u.s=zE c/\di (ag (Sx.V.agg [V.d v8]).cl 89)/\di (ag [V.d (D.v (Value.string (sb i.p.code))),V.own 1,V.d (dI i.p.tick),V.d (dI i.p.low),V.d (dI i.p.high),V.d (dI i.p.wide),V.d (dI i.p.dr),V.d (dI i.p.top),V.d (dI i.p.least),V.d (dI i.p.part),V.own 2] 25)/\di (af 1 (iE i.p.settle))/\di (af 1 (iE i.p.dk))) (∃(l:Unit),zE i.s=zE c/\aa yG (yQ i.p i.B)=aa yG (ab k (yQ i.p i.B))/\True))
def y3u (i:uk):Prop:=
 ∃(ig:uk),ig.s=i.s/\bE ig.b=bE i.b/\ig.b.length<=1099511627776/\∀(o:Unit),True->∃(o:Unit),(zL i.s i.b).snd=(zL ig.s ig.b).snd/\True
def yXy (g:Gt):Prop:=
 ∃(o:Unit),ff.qq ic 5 yW g.m=jR g.m/\di (xK g.W)/\True
def y0q (m:ic):Prop:=
 ∃(o:Unit),di (sb m.p.code)/\di m.p.tick/\di m.p.low/\di m.p.high/\di m.p.wide/\di m.p.dr/\di m.p.top/\di m.p.least/\di m.p.part/\zE m.s=yW m 1/\di (zX m.used)/\af 1 (iE m.p.dk)=yW m 3/\af 1 (iE m.p.settle)=yW m 4/\True
def Mh (a:xa):Prop:=sb a.p.code=sb a.p.code/\True/\di a.p.tick/\di a.p.low/\di a.p.high/\di a.p.wide/\di a.p.dr/\di a.p.top/\di a.p.least/\di a.p.part/\True/\True
def Md (a:xa):=(aa yG (yQ a.p (a.x.X a.p a.s a.b).B))
def Y6 (a:xa) (b:ic) (c:Gt) (d:List (List UInt8)) (e:AZ):Prop:=∃(f:Nq),sb f.p.code=sb a.p.code/\iE f.p.dk=iE a.p.dk/\f.p.tick=a.p.tick/\f.p.low=a.p.low/\f.p.high=a.p.high/\f.p.wide=a.p.wide/\f.p.dr=a.p.dr/\f.p.top=a.p.top/\f.p.least=a.p.least/\f.p.part=a.p.part/\iE f.p.settle=iE a.p.settle/\zE f.s=zE b.s/\(f.s.fk f.p f.B/\iQ f.p f.B)/\∀(g:Unit),True->∃(h:Jn),aa yG h.v=aa yG (yQ a.p a.x.B)/\aa yG h.w=aa yG (yQ f.p f.B)/\h.seq=a.x.q/\(ae h.v=ae h.w/\((-4000000000000000000)<=h.seq/\h.seq<=4000000000000000000)/\h.v.o7<=100000000/\h.w.o7<=100000000/\ae h.v<=1000000)/\∀(j:Unit),True->∃(k:ic),di (sb a.p.code)/\di a.p.tick/\di a.p.low/\di a.p.high/\di a.p.wide/\di a.p.dr/\di a.p.top/\di a.p.least/\di a.p.part/\a.x.q+(↑(a.x.M a.p a.s a.b).length:Int)=ap.wrap (a.x.q+(↑(aa y3 (wR h.seq (j8 0 h.v h.w))).length:Int))/\sb k.p.code=sb b.p.code/\k.p.tick=b.p.tick/\k.p.low=b.p.low/\k.p.high=b.p.high/\k.p.wide=b.p.wide/\k.p.dr=b.p.dr/\k.p.top=b.p.top/\k.p.least=b.p.least/\k.p.part=b.p.part/\zE k.s=zE f.s/\zX k.used=zX b.used/\af 1 (iE k.p.dk)=af 1 (iE b.p.dk)/\af 1 (iE k.p.settle)=af 1 (iE b.p.settle)/\xK (a.x.X a.p a.s a.b).W=xK c.W/\di (af 1 (iE a.p.dk))/\di (af 1 (iE a.p.settle))/\aa gi (a.x.R++[uF a.s a.b])=aa gi a.x.R++[[D.ro 1 (bE d.flatten)]]/\af 10 (Md a)=af 10 (aa yG (yQ f.p f.B))/\aa jB a.O=aa jB e.X.O/\aa y3 a.N=aa y3 (wR h.seq (j8 0 h.v h.w))/\k.fk a.p (a.x.X a.p a.s a.b).B (a.x.X a.p a.s a.b).U
def YV (a:xa) (b:ic) (c:Gt) (d:List (List UInt8)) (e:AZ):Prop:=(Mh a)/\Y6 a b c d e
def Ze (a:xa) (b:Gt) (c:List (List UInt8)) (d:AZ):Prop:=(Mh a)/\∃(e:ic),sb e.p.code=sb b.m.p.code/\e.p.tick=b.m.p.tick/\e.p.low=b.m.p.low/\e.p.high=b.m.p.high/\e.p.wide=b.m.p.wide/\e.p.dr=b.m.p.dr/\e.p.top=b.m.p.top/\e.p.least=b.m.p.least/\e.p.part=b.m.p.part/\zE e.s=zE b.m.s/\zX e.used=zX b.m.used/\af 1 (iE e.p.dk)=af 1 (iE b.m.p.dk)/\af 1 (iE e.p.settle)=af 1 (iE b.m.p.settle)/\True/\∀(f:Unit),True->YV a e b c d
def Mi (a:AZ):Prop:=(a.g.m.fk a.p a.B a.U/\iQ a.p a.B)/\a.b.length<=1099511627776/\a.X=nP a.p a.B a.U a.g.W a.s a.b
def Ved (i:xa):Prop:=
 True/\True/\∃(a:List (List UInt8)),aa gi a=[[D.ro 1 [[D.v (.int .u8 (aq.wrap i.s))]]],[D.ro 1 (bE i.b)]]/\(1<=a.flatten.length/\a.flatten.length<=1099511627776/\a.length<=1000)/\∀(b:Unit),True->True/\True/\((aa gi i.x.R).length+1)*(24:Nat)<=(140737488355328:Nat)/\∃(c:AZ),c.s=i.s/\bE c.b=bE i.b/\iq c.g=iq i.g/\(Mi c)/\∀(d:ic),d.fk c.p c.X.B c.X.U->(∃(e:Gt),jR e.m=jR d/\xK e.W=xK c.X.W/\True/\∀(f:Unit),True->(Mh i)/\(∃(g:ic),sb g.p.code=sb e.m.p.code/\g.p.tick=e.m.p.tick/\g.p.low=e.m.p.low/\g.p.high=e.m.p.high/\g.p.wide=e.m.p.wide/\g.p.dr=e.m.p.dr/\g.p.top=e.m.p.top/\g.p.least=e.m.p.least/\g.p.part=e.m.p.part/\zE g.s=zE e.m.s/\zX g.used=zX e.m.used/\af 1 (iE g.p.dk)=af 1 (iE e.m.p.dk)/\af 1 (iE g.p.settle)=af 1 (iE e.m.p.settle)/\True/\∀(h:Unit),True->(Mh i)/\(Y6 i g e a c)/\YV i g e a c)/\Ze i e a c)/\True/\(Mh i)/\∃(e:Gt),jR e.m=jR d/\xK e.W=xK c.X.W/\True/\∀(f:Unit),True->Ze i e a c
end Sx
