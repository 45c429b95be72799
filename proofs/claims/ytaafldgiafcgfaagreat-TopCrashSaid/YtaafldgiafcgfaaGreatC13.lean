/- Texts of ours. No condition. -/
import Derived.Test.YtaafldgiafcgfaaGreatC12
set_option linter.all false
open List renaming map->aa,take->ab,drop->ac,length->ae,replicate->af,length_range->ag
open Sx.AObj renaming fro->aj,cells->ak,own->am
open And renaming intro->ao
open Go.IntKind renaming i64->ap,u8->aq
open Bool renaming false->ar,true->au
open Int renaming toNat->av
open Option renaming some->aw
open Go.Value renaming string->ax
namespace Sx
set_option maxRecDepth 100000
open Go Cv Go.Proofs
def zGz (a:Nat) (b:Nat) (c:BsI) (d:Nat->Prop) (e:Nat->Nat):Prop:=(↑a:Int)=ap.wrap ((↑b:Int)+1)/\dh ((zW c.l c.s).fst.price)/\dh ((zW c.l c.s).fst.qty)/\dh ((zW c.l c.s).fst.a.inst)/\dh ((zW c.l c.s).fst.a.side)/\dh ((zW c.l c.s).fst.b.inst)/\dh ((zW c.l c.s).fst.b.side)/\d a/\e a<e b/\True
def qR (a:Nat) (b:BsI):=(dB (ab a b.l) (zW b.l b.s).fst)
def yRi (i:BsI):Prop:=
 ∃(a:BsI),aa zJ a.l=aa zJ i.l/\a.s=i.s/\(dJ a)/\∀(b:Unit),True->cnd (!(zW a.l a.s).snd) (∃(c:Unit),(qH i.l i.s).fst.price=0/\(qH i.l i.s).fst.qty=0/\(qH i.l i.s).fst.count=0/\(qH i.l i.s).snd=ar/\True) (∃(c:Nat),(qR c i).fst=(zW a.l a.s).fst.qty/\(qR c i).snd=0/\(↑c:Int)=0/\(zW i.l i.s).fst.price=(zW a.l a.s).fst.price/\(zW i.l i.s).fst.qty=(zW a.l a.s).fst.qty/\(zW i.l i.s).fst.a.inst=(zW a.l a.s).fst.a.inst/\(zW i.l i.s).fst.a.side=(zW a.l a.s).fst.a.side/\(zW i.l i.s).fst.b.inst=(zW a.l a.s).fst.b.inst/\(zW i.l i.s).fst.b.side=(zW a.l a.s).fst.b.side/\∃(d:Nat->Prop),∃(e:Nat->Nat),d c/\∀(f:Nat),d f->cnd (decide ((↑f:Int)<(vW i))) ((0<=(↑f:Int)/\(↑f:Int)<(vW i))/\∃(g:Int),∃(h:Int),∃(j:Int),∃(k:Int),∃(l:Int),∃(m:Int),zE (aa zJ i.l) (↑f:Int).toNat 0 6=aw [dI g,dI h,dI j,dI k,dI l,dI m]/\cnd (g==(zW i.l i.s).fst.price) (∃(n:Nat),((qR n i).fst=if h>(qR f i).fst then h else(qR f i).fst)/\(qR n i).snd=ap.wrap ((qR f i).snd+1)/\zGz n f i d e) (∃(n:Nat),(qR n i).fst=(qR f i).fst/\(qR n i).snd=(qR f i).snd/\zGz n f i d e)) (∃(g:Unit),(qH i.l i.s).fst.price=(zW i.l i.s).fst.price/\(qH i.l i.s).fst.qty=(qR f i).fst/\(qH i.l i.s).fst.count=(qR f i).snd/\(qH i.l i.s).snd=au/\True))
def yHa (i:DtI):Prop:=
 True/\((aa xJ i.d.out).length+1)*(56:Nat)<=(140737488355328:Nat)/\∃(a:Unit),i.d.seq+(↑(1:Nat):Int)=ap.wrap (i.d.seq+1)/\aa xJ (i.d.out++wI i.d.seq [i.m])=aa xJ i.d.out++[[dI (ap.wrap (i.d.seq+1)),dI (↑i.m.inst:Int),dI i.m.side,dI i.m.l.price,dI i.m.l.qty,dI i.m.l.count,D.v (.bool i.m.imp)]]/\True
def kL (a:DsI) (b:DsJ):=(a.d.out++wI a.d.seq b.M)
def pT (a:DsI):Prop:=ak [V.own 4,V.d (dI a.b.imp.price),V.d (dI a.b.imp.qty),V.d (dI a.b.imp.count),V.d (D.v (.bool a.b.has))] 129=ak [V.own 4,V.d (dI a.b.imp.price),V.d (dI a.b.imp.qty),V.d (dI a.b.imp.count),V.d (D.v (.bool a.b.has))] 129/\dh (aj 3 (aa lvE a.b.levels))/\dh (ak [V.own 2,V.d (dI a.a.imp.price),V.d (dI a.a.imp.qty),V.d (dI a.a.imp.count),V.d (D.v (.bool a.a.has))] 129)/\dh (aj 3 (aa lvE a.a.levels))
def zHp (a:DsI) (b:DsJ):Prop:=ak [V.d (dI (a.d.seq+(↑b.M.length:Int))),V.own 7] (230:TypeId)=ak [V.d (dI (a.d.seq+(↑b.M.length:Int))),V.own 7] (230:TypeId)/\dh (am zVe 7 (aa xJ (kL a b)))/\pT a
def nY (a:Bool->Prop) (b:Bool) (c:DsI) (d:DsJ):Prop:=a b/\zHp c d
def zHo (a:DsI) (b:Int) (c:Int) (d:Bool->Prop) (e:DsJ):Prop:=∃(f:I3),f.side=a.s/\f.x=b/\f.y=c/\True/\∀(g:Unit),True->∃(h:Bool),h=cZ f.side f.x f.y/\nY d h a e
def zBf (a:Bool->Prop) (b:DsI) (c:DsJ):Prop:=∃(d:Bool),d=au/\nY a d b c
def zGw (a:Lv->Prop) (b:Lv) (c:DsI) (d:DsJ):Prop:=a b/\zHp c d
def zJd (a:DsJ->Prop) (b:DsJ) (c:DsJ->Nat) (d:DsJ) (e:DsI):Prop:=a b/\c b<c d/\pT e
def zGv (a:DsI) (b:DsJ) (c:DtI) (d:DsJ->Prop) (e:DsJ->Nat) (f:DsJ):Prop:=a.d.seq+(↑b.M.length:Int)=c.d.seq+(↑(1:Nat):Int)/\aa xJ (kL a b)=aa xJ (c.d.out++wI c.d.seq [c.m])/\zJd d b e f a
def zGy (a:Dfr->Prop) (b:Dfr) (c:DsI):Prop:=a b/\pT c
def mN (a:DtI):Prop:=(-4611686018427387904)<=a.d.seq/\a.d.seq+(↑(1:Nat):Int)<=4611686018427387904/\a.d.out.length+(1:Nat)<=(1000000000:Nat)
def dF (a:DsJ):=(↑(aa lvE a.y).length:Int)
def dH (a:DsJ):Prop:=(0:Int)<=(0:Int)/\0<(dF a)
def gH (a:DsJ):=(↑(aa lvE a.x).length:Int)
def aF (a:DsJ):Prop:=(0:Int)<=(0:Int)/\0<(gH a)
def dW (a:DsI):=(a.d.out++wI a.d.seq (j9 a.n a.s a.a a.b))
def dC (a:DsI):=(↑(j9 a.n a.s a.a a.b).length:Int)
def yHr (i:DsI):Prop:=
 ∃(a:DsJ),aa lvE a.x=aa lvE i.a.levels/\aa lvE a.y=aa lvE i.b.levels/\i.d.seq+(↑a.M.length:Int)=i.d.seq/\aa xJ (kL i a)=aa xJ i.d.out/\∃(b:DsJ->Prop),∃(c:DsJ->Nat),b a/\∀(d:DsJ),b d->cnd (decide (ap.wrap ((gH d)+(dF d))>0)) (∃(e:Bool),∃(f:Bool->Prop),cnd ((dF d)==0) (zBf f i d) (cnd (decide ((gH d)>0)) ((aF d)/\∃(g:Int),zE (aa lvE d.x) (av 0) 0 1=aw [dI g]/\(dH d)/\∃(h:Int),zE (aa lvE d.y) (av 0) 0 1=aw [dI h]/\zHo i g h f d) (∃(g:Bool),g=ar/\nY f g i d))/\∀(g:Bool),f g->cnd g ((aF d)/\∃(h:Int),zE (aa lvE d.x) (av 0) 0 1=aw [dI h]/\∃(j:DtI),(↑j.m.inst:Int)=(↑i.n:Int)/\j.m.side=i.s/\j.m.l.price=h/\j.m.l.qty=0/\j.m.l.count=0/\j.m.imp=ar/\j.d.seq=i.d.seq+(↑d.M.length:Int)/\aa xJ j.d.out=aa xJ (kL i d)/\(mN j)/\∀(k:Unit),True->((0:Int)<=(1:Int)/\1<=(gH d))/\∃(l:DsJ),aa lvE l.x=ac (av 1) (aa lvE d.x)/\aa lvE l.y=aa lvE d.y/\zGv i l j b c d) (∃(h:Bool),∃(j:Bool->Prop),cnd ((gH d)==0) (zBf j i d) ((dH d)/\∃(k:Int),zE (aa lvE d.y) (av 0) 0 1=aw [dI k]/\(aF d)/\∃(l:Int),zE (aa lvE d.x) (av 0) 0 1=aw [dI l]/\zHo i k l j d)/\∀(k:Bool),j k->cnd k ((dH d)/\∃(l:Int),∃(m:Int),∃(n:Int),zE (aa lvE d.y) (av 0) 0 3=aw [dI l,dI m,dI n]/\∃(p:DtI),(↑p.m.inst:Int)=(↑i.n:Int)/\p.m.side=i.s/\p.m.l.price=l/\p.m.l.qty=m/\p.m.l.count=n/\p.m.imp=ar/\p.d.seq=i.d.seq+(↑d.M.length:Int)/\aa xJ p.d.out=aa xJ (kL i d)/\(mN p)/\∀(q:Unit),True->((0:Int)<=(1:Int)/\1<=(dF d))/\∃(r:DsJ),aa lvE r.x=aa lvE d.x/\aa lvE r.y=ac (av 1) (aa lvE d.y)/\zGv i r p b c d) (∃(l:Dfr),l.seq=i.d.seq+(↑d.M.length:Int)/\aa xJ l.out=aa xJ (kL i d)/\∃(m:Dfr->Prop),(∃(n:Bool),∃(p:Bool->Prop),((aF d)/\∃(q:Int),∃(r:Int),∃(s:Int),zE (aa lvE d.x) (av 0) 0 3=aw [dI q,dI r,dI s]/\(dH d)/\∃(t:Int),∃(u:Int),∃(v:Int),zE (aa lvE d.y) (av 0) 0 3=aw [dI t,dI u,dI v]/\∃(w:Bool),w=!(q==t && (r==u && (s==v && au)))/\p w/\dh (ak [V.d (dI l.seq),V.own 9] (230:TypeId))/\dh (am zVe 7 (aa xJ l.out))/\pT i)/\∀(q:Bool),p q->cnd q ((dH d)/\∃(r:Int),∃(s:Int),∃(t:Int),zE (aa lvE d.y) (av 0) 0 3=aw [dI r,dI s,dI t]/\∃(u:DtI),(↑u.m.inst:Int)=(↑i.n:Int)/\u.m.side=i.s/\u.m.l.price=r/\u.m.l.qty=s/\u.m.l.count=t/\u.m.imp=ar/\u.d.seq=l.seq/\aa xJ u.d.out=aa xJ l.out/\(mN u)/\∀(v:Unit),True->∃(w:Dfr),w.seq=u.d.seq+(↑(1:Nat):Int)/\aa xJ w.out=aa xJ (u.d.out++wI u.d.seq [u.m])/\zGy m w i) (∃(r:Dfr),r.seq=l.seq/\aa xJ r.out=aa xJ l.out/\zGy m r i))/\∀(n:Dfr),m n->((0:Int)<=(1:Int)/\1<=(gH d))/\((0:Int)<=(1:Int)/\1<=(dF d))/\∃(p:DsJ),aa lvE p.x=ac (av 1) (aa lvE d.x)/\aa lvE p.y=ac (av 1) (aa lvE d.y)/\i.d.seq+(↑p.M.length:Int)=n.seq/\aa xJ (kL i p)=aa xJ n.out/\zJd b p c d i))) (∃(e:Bool),∃(f:Bool->Prop),cnd (!(i.a.imp.price==i.b.imp.price && (i.a.imp.qty==i.b.imp.qty && (i.a.imp.count==i.b.imp.count && au)))) (zBf f i d) (∃(g:Bool),g=!i.a.has==i.b.has/\nY f g i d)/\∀(g:Bool),f g->cnd g (∃(h:Lv),h.price=i.b.imp.price/\h.qty=i.b.imp.qty/\h.count=i.b.imp.count/\∃(j:Lv->Prop),cnd (!i.b.has) (∃(k:Lv),k.price=0/\k.qty=0/\k.count=0/\zGw j k i d) (∃(k:Lv),k.price=h.price/\k.qty=h.qty/\k.count=h.count/\zGw j k i d)/\∀(k:Lv),j k->∃(l:DtI),(↑l.m.inst:Int)=(↑i.n:Int)/\l.m.side=i.s/\l.m.l.price=k.price/\l.m.l.qty=k.qty/\l.m.l.count=k.count/\l.m.imp=au/\l.d.seq=i.d.seq+(↑d.M.length:Int)/\aa xJ l.d.out=aa xJ (kL i d)/\(mN l)/\∀(m:Unit),True->∃(n:Unit),i.d.seq+(dC i)=l.d.seq+(↑(1:Nat):Int)/\aa xJ (dW i)=aa xJ (l.d.out++wI l.d.seq [l.m])/\True) (∃(h:Unit),i.d.seq+(dC i)=i.d.seq+(↑d.M.length:Int)/\aa xJ (dW i)=aa xJ (kL i d)/\True))
def zHj (a:DsI):Prop:=(-4611686018427387904)<=a.d.seq/\a.d.seq+(↑(a.a.levels.length+a.b.levels.length+1):Int)<=4611686018427387904/\a.d.out.length+(a.a.levels.length+a.b.levels.length+1)<=1000000000
def nG (a:DvI) (b:Nat):=([]++wI a.seq (jX 0 (ab b a.v) (ab b a.w)))
def zAv (a:Nat) (b:DvI):=(↑(jX 0 (ab a b.v) (ab a b.w)).length:Int)
def pF (a:DvI):=(↑(aa yG a.v).length:Int)
def yRu (i:DvI):Prop:=
 cnd ((pF i) !=(↑(aa yG i.w).length:Int)) (∃(a:Unit),aa xJ (wI i.seq (jX 0 i.v i.w))=[]/\True) (∃(a:Nat),(↑a:Int)=0/\i.seq+(zAv a i)=i.seq/\aa xJ (nG i a)=[]/\∃(b:Nat->Prop),∃(c:Nat->Nat),b a/\∀(d:Nat),b d->cnd (decide ((↑d:Int)<(pF i))) (((0:Int)<=(0:Int)/\0<(↑(2:Nat):Int))/\∃(e:Int),zE [[dI 1],[dI 2]] (av 0) 0 1=aw [dI e]/\(0<=(↑d:Int)/\(↑d:Int)<(pF i))/\∃(f:List (List D)),∃(g:Int),∃(h:Int),∃(j:Int),∃(k:Bool),zE (aa yG i.v) (↑d:Int).toNat 0 5=aw [D.ro 3 f,dI g,dI h,dI j,D.v (.bool k)]/\(0<=(↑d:Int)/\(↑d:Int)<(↑(aa yG i.w).length:Int))/\∃(l:List (List D)),∃(m:Int),∃(n:Int),∃(p:Int),∃(q:Bool),zE (aa yG i.w) (↑d:Int).toNat 0 5=aw [D.ro 3 l,dI m,dI n,dI p,D.v (.bool q)]/\∃(r:DsI),(↑r.n:Int)=(↑d:Int)/\r.s=e/\aa lvE r.a.levels=f/\r.a.imp.price=g/\r.a.imp.qty=h/\r.a.imp.count=j/\r.a.has=k/\aa lvE r.b.levels=l/\r.b.imp.price=m/\r.b.imp.qty=n/\r.b.imp.count=p/\r.b.has=q/\r.d.seq=i.seq+(zAv d i)/\aa xJ r.d.out=aa xJ (nG i d)/\(zHj r)/\∀(s:Unit),True->(fE)/\∃(t:Int),zE [[dI 1],[dI 2]] (ap.wrap ((0:Int)+(1:Int))).toNat 0 1=aw [dI t]/\(0<=(↑d:Int)/\(↑d:Int)<(pF i))/\∃(u:List (List D)),∃(v:Int),∃(w:Int),∃(x:Int),∃(y:Bool),zE (aa yG i.v) (↑d:Int).toNat 5 5=aw [D.ro 3 u,dI v,dI w,dI x,D.v (.bool y)]/\(0<=(↑d:Int)/\(↑d:Int)<(↑(aa yG i.w).length:Int))/\∃(z:List (List D)),∃(a_1:Int),∃(a_2:Int),∃(a_3:Int),∃(a_4:Bool),zE (aa yG i.w) (↑d:Int).toNat 5 5=aw [D.ro 3 z,dI a_1,dI a_2,dI a_3,D.v (.bool a_4)]/\∃(a_5:DsI),(↑a_5.n:Int)=(↑d:Int)/\a_5.s=t/\aa lvE a_5.a.levels=u/\a_5.a.imp.price=v/\a_5.a.imp.qty=w/\a_5.a.imp.count=x/\a_5.a.has=y/\aa lvE a_5.b.levels=z/\a_5.b.imp.price=a_1/\a_5.b.imp.qty=a_2/\a_5.b.imp.count=a_3/\a_5.b.has=a_4/\a_5.d.seq=r.d.seq+(dC r)/\aa xJ a_5.d.out=aa xJ (dW r)/\(zHj a_5)/\∀(a_6:Unit),True->∃(a_7:Nat),(↑a_7:Int)=ap.wrap ((↑d:Int)+1)/\i.seq+(zAv a_7 i)=a_5.d.seq+(dC a_5)/\aa xJ (nG i a_7)=aa xJ (dW a_5)/\b a_7/\c a_7<c d/\dh (ak [V.own 2] 71)/\dh (aj 10 (aa yG i.w))/\dh (ak [V.own 0] 71)/\dh (aj 10 (aa yG i.v))) (∃(e:Unit),aa xJ (wI i.seq (jX 0 i.v i.w))=aa xJ (nG i d)/\True))
open Classical
def zMi {l:List Quote} {k:Nat} {q:Quote} (b:Quote) (h:l[k]? =aw q):dB (l.take (k+1)) b=if q.price=b.price then(if q.qty>(dB (l.take k) b).1 then q.qty else(dB (l.take k) b).1,(dB (l.take k) b).2+1)else dB (l.take k) b:=by
 rw[dB,y6m,h,y8f,y9k,y8v,List.foldl_nil];rfl
def zYo (b:Quote) (l:List Quote):∀k,k<=l.length->0<=(dB (l.take k) b).2/\(dB (l.take k) b).2<=k
 |0,_=>⟨by rw[y9s];exact y8p 0,by rw[y9s];exact y8p 0⟩
 |k+1,h=>by
  obtain⟨q,hq⟩:=yC (l:=l) (i:=k) (by omega);have:=zYo b l k (by omega);rw[zMi b hq];split
  ·dsimp only;constructor<;>omega
  ·constructor<;>omega
def yZb (i:BsI) (h:showC.cnd i):yRi i:=by
 obtain⟨hs,hl⟩:(i.s=1\/i.s=2)/\i.l.length<=1000000:=h;have hml:(i.l.map zJ).length=i.l.length:=y5c _;unfold yRi qR zGz dJ vW dI;rw[hml];refine⟨i,rfl,rfl,⟨hs,hl⟩,λ_ _=>Cv.cnd.mk (λc=> ?_) (λc=> ?_)⟩
 ·have e:qH i.l i.s=(⟨0,0,0⟩,ar):=by rw[qH,y5b (by simpa using c)]
  rw[e];exact⟨(),by(repeat'(first|exact trivial|exact rfl|apply ao))⟩
 have e:qH i.l i.s=(⟨(zW i.l i.s).1.price,(dB i.l (zW i.l i.s).1).1,(dB i.l (zW i.l i.s).1).2⟩,au):=by rw[qH,y5d (by simpa using c)]
 rw[e];generalize (zW i.l i.s).1=b;refine⟨0,rfl,rfl,rfl,rfl,rfl,rfl,rfl,rfl,rfl,λk=>k<=i.l.length,λk=>i.l.length-k,y6i _,λk hk=>zI (λhlt=> ?_) (λhlt=> ?_)⟩
 ·obtain⟨q,hq⟩:=yC (l:=i.l) (i:=k) (by omega);have st:=zMi b hq;have bd:=zYo b i.l k hk;have hk:k<=i.l.length:=hk;refine⟨⟨by omega,by omega⟩,q.price,q.qty,q.a.inst,q.a.side,q.b.inst,q.b.side,elA hq (by simp[zJ]) rfl,Cv.cnd.mk (λe=>⟨k+1,?_⟩) (λe=>⟨k+1,?_⟩)⟩
  ·rw[st,y5d (by simpa using e)];exact⟨rfl,by dsimp only;rw[w64 (by omega)],wjn (by omega),rfl,rfl,rfl,rfl,rfl,rfl,by dsimp only;omega,by dsimp only;omega,trivial⟩
  ·rw[st,y5b (by simpa using e)];exact⟨rfl,rfl,wjn (by omega),rfl,rfl,rfl,rfl,rfl,rfl,by dsimp only;omega,by dsimp only;omega,trivial⟩
 ·have hk:k<=i.l.length:=hk;obtain rfl:k=i.l.length:=by omega
  rw[y7y];exact⟨(),by(repeat'(first|exact trivial|exact rfl|apply ao))⟩
def yOc:showC.ok Tryz.prog 80:=okw mixed (gokc zZm gok0) 0 (λ_=>[]) (λi=>yWt i) [] Tryz.func80 yZb
def zIx (p:Prd) (B:List (List zH)):(yX p B).length=p.count:=by rw[yX,y5c,ag]
def yCl (p:Prd) (B:List (List zH)) {j:Nat} (h:j<p.count):(yX p B)[j]? =aw (zEn p B j 1,zEn p B j 2):=by
 rw[yX,y6q,y9c h];rfl
def yDr (a b:Lv):(a.price==b.price && (a.qty==b.qty && (a.count==b.count && au)))=decide (a=b):=by
 rw[xBd,decide_eq_true_iff];obtain⟨p,q,c⟩:=a;obtain⟨p2,q2,c2⟩:=b;simp
def yLa {v:Vw} {k:Nat} {b:Sd×Sd} (h:v[k]? =aw b):zE (v.map yG) k 0 10=aw [D.ro 3 (b.1.levels.map lvE),.v (.int .i64 b.1.imp.price),.v (.int .i64 b.1.imp.qty),.v (.int .i64 b.1.imp.count),.v (.bool b.1.has),.ro 3 (b.2.levels.map lvE),.v (.int .i64 b.2.imp.price),.v (.int .i64 b.2.imp.qty),.v (.int .i64 b.2.imp.count),.v (.bool b.2.has)]/\
 zE (v.map yG) k 0 5=aw [D.ro 3 (b.1.levels.map lvE),.v (.int .i64 b.1.imp.price),.v (.int .i64 b.1.imp.qty),.v (.int .i64 b.1.imp.count),.v (.bool b.1.has)]/\
 zE (v.map yG) k 5 5=aw [D.ro 3 (b.2.levels.map lvE),.v (.int .i64 b.2.imp.price),.v (.int .i64 b.2.imp.qty),.v (.int .i64 b.2.imp.count),.v (.bool b.2.has)]:=
 ⟨elA h (by simp[yG]) rfl,elA h (by simp[yG]) rfl,elA h (by simp[yG]) rfl⟩
def zOm (q:Int):∀(A B:List VM),wI q (A++B)=wI q A++wI (q+A.length) B
 |[],B=>by simp[wI]
 |a::A,B=>by
  rw[y6t,wI,wI,zOm,y5g,y6t];congr 3;omega
def zKz (d:Dfr) (A B:List VM):(d.add A).add B=d.add (A++B):=by
 rw[Dfr.add,Dfr.add,Dfr.add,zOm,y5a,y5i];congr 1;dsimp only;omega
def yXc (i:DtI) (h:dtellC.cnd i):yHa i:=by
 obtain⟨h1,h2,h3⟩:i.d.ok 1:=h;unfold yHa dI;have e:ap.wrap (i.d.seq+1)=i.d.seq+1:=w64 (by omega);rw[e];exact⟨trivial,by rw[y5c];omega,(),rfl,by rw[y5l];rfl,trivial⟩
def yFy:dtellC.ok Tryz.prog 170:=okw mixed gok0 0 (λ_=>[]) (λ_=>[]) [] Tryz.func170 yXc
def nN {s:Int}:∀(k:Nat) (X Y:List Lv),(vL s k X Y).length<=k
 |0,X,Y=>by rw[vL];exact y5x 0
 |k+1,[],[]=>by rw[vL];exact y6i _
 |k+1,x::X,[]=>by rw[vL,y5g];have:=nN (s:=s) k X [];omega
 |k+1,[],y::Y=>by rw[vL,y5g];have:=nN (s:=s) k [] Y;omega
 |k+1,x::X,y::Y=>by
  have h1:=nN (s:=s) k X (y::Y);have h2:=nN (s:=s) k (x::X) Y;have h3:=nN (s:=s) k X Y;rw[vL];split
  ·rw[y5g];omega
  split
  ·rw[y5g];omega
  rw[y5a];split
  ·simp only[y6v];omega
  ·simp only[y6z];omega
def z4q (n:Nat) (s:Int) (a b:Sd):(j9 n s a b).length<=a.levels.length+b.levels.length+1:=by
 have:=nN (s:=s) (a.levels.length+b.levels.length) a.levels b.levels;rw[j9,y5a,y5c];split
 ·rw[y6z];omega
 ·simp only[y6v];omega
def zVu:∀(n j:Nat) {v w:Vw} {a b:Sd×Sd},v[j]? =aw a->w[j]? =aw b->jX n (v.take (j+1)) (w.take (j+1))=jX n (v.take j) (w.take j)++(j9 (n+j) 1 a.1 b.1++j9 (n+j) 2 a.2 b.2)
 |n,0,x::v,y::w,a,b,h1,h2=>by
  obtain rfl:x=a:=by simpa using h1
  obtain rfl:y=b:=by simpa using h2
  simp[jX]
 |n,j+1,x::v,y::w,a,b,h1,h2=>by
  have:=zVu (n+1) j (v:=v) (w:=w) (a:=a) (b:=b) (by simpa using h1) (by simpa using h2);rw[y6l,y6l,y6l,y6l,jX,jX,this,y5i,y5i,y5i,y8s n 1 j,xAj 1 j]
 |_,0,[],_,_,_,h1,_=>by simp at h1
 |_,j+1,[],_,_,_,h1,_=>by simp at h1
 |_,0,_::_,[],_,_,_,h2=>by simp at h2
 |_,j+1,_::_,[],_,_,_,h2=>by simp at h2
def lO {v:Vw} {j:Nat} {a:Sd×Sd} (h:v[j]? =aw a):Vw.levs (v.take (j+1))=Vw.levs (v.take j)+(a.1.levels.length+a.2.levels.length):=by
 rw[Vw.levs,Vw.levs,y6m,h,y8f,y5l,xBf];simp
def z5j (v:Vw) (j:Nat):Vw.levs (v.take j)<=Vw.levs v:=by
 conv=>rhs;rw[<- y7g j v]
 rw[Vw.levs,Vw.levs,y5l,xBf];omega
def yDh (v w:Vw):∀j,j<=v.length->j<=w.length->(jX 0 (v.take j) (w.take j)).length<=Vw.levs (v.take j)+Vw.levs (w.take j)+2*j
 |0,_,_=>by rw[y9s,jX];exact y6i _;simp
 |j+1,h1,h2=>by
  obtain⟨a,ha⟩:=yC (l:=v) (i:=j) (by omega);obtain⟨b,hb⟩:=yC (l:=w) (i:=j) (by omega);have:=yDh v w j (by omega) (by omega);have s1:=z4q (0+j) 1 a.1 b.1;have s2:=z4q (0+j) 2 a.2 b.2;rw[zVu 0 j ha hb,lO ha,lO hb,y5a,y5a];omega
def nI (q:Int):∀M:List VM,(wI q M).length=M.length
 |[]=>rfl
 |m::M=>by rw[wI,y5g,nI,y5g]
def tl1 (q:Int) (M:List VM) (m:VM):q+((M++[m]).length:Nat)=q+(M.length:Nat)+((1:Nat):Int):=by
 rw[y5a,y6z];omega
def tl2 (o:List z1c) (q:Int) (M:List VM) (m:VM):(o++wI q (M++[m])).map xJ=((o++wI q M)++wI (q+(M.length:Nat)) [m]).map xJ:=by rw[zOm,y5i]
def lvx (x:Lv) (X:List Lv):zE ((x::X).map lvE) 0 0 1=aw [D.v (.int .i64 x.price)]/\zE ((x::X).map lvE) 0 0 3=aw [D.v (.int .i64 x.price),.v (.int .i64 x.qty),.v (.int .i64 x.count)]:=⟨rfl,rfl⟩
def yFs (s:Int) (k:Nat):vL s k [] []=[]:=by cases k<;>rw[vL]
def yUo (i:DsI) (h:dsideC.cnd i):yHr i:=by
 obtain⟨d,n,s,⟨al,ai,ah⟩,⟨bl,bi,bh⟩⟩:=i;obtain⟨h1,h2,h3⟩:Dfr.ok d (al.length+bl.length+1):=h;unfold yHr zGy zGv zJd zGw zBf zHo nY zHp pT kL dC dW aF gH dH dF mN dI;refine⟨⟨al,bl,[]⟩,rfl,rfl,by simp,by simp[wI],λj=>∃k,j.x.length+j.y.length<=k/\(vL s (al.length+bl.length) al bl).map (λl=>(⟨n,s,l,ar⟩:VM))=j.M++(vL s k j.x j.y).map (λl=>(⟨n,s,l,ar⟩:VM))/\k+j.M.length<=al.length+bl.length,λj=>j.x.length+j.y.length,⟨al.length+bl.length,y5x _,rfl,y5x _⟩,?_⟩;rintro⟨x,y,M⟩ ⟨k,hk,hM,hl⟩;dsimp only at hk hM hl ⊢;have hx:(x.map lvE).length=x.length:=y5c _;have hy:(y.map lvE).length=y.length:=y5c _;have ok1:Dfr.ok ⟨d.seq+(M.length:Nat),d.out++wI d.seq M⟩ 1:=⟨by dsimp only;omega,by dsimp only;omega,by dsimp only;rw[y5a,nI];omega⟩
 rw[hx,hy,w64 (by omega)];refine zI (λc=> ?_) (λc=> ?_)
 ·obtain⟨k',rfl⟩:∃k',k=k'+1:=⟨k-1,by omega⟩
  rcases x with _|⟨a,X⟩
  ·rcases y with _|⟨b,Y⟩
   ·exact absurd c (by simp)
   refine⟨ar,λt=>t=ar,Cv.cnd.mk (λe=> ?_) (λ_=>Cv.cnd.mk (λe=>absurd e (by simp)) (λ_=>⟨ar,rfl,rfl,by(repeat'(first|exact trivial|exact rfl|apply ao))⟩)),?_⟩
   ·exfalso;simp at e;omega
   rintro _ rfl;refine Cv.cnd.mk (λc=>absurd c (by decide)) (λ_=>⟨ar,λt=>t=au,Cv.cnd.mk (λ_=>⟨au,rfl,rfl,by(repeat'(first|exact trivial|exact rfl|apply ao))⟩) (λe=>absurd e (by simp)),?_⟩);rintro _ rfl;refine Cv.cnd.mk (λ_=> ?_) (λc=>absurd c (by decide));rw[y5g]at hk;refine⟨⟨by decide,by rw[y5g];omega⟩,b.price,b.qty,b.count,(lvx b Y).2,⟨_,⟨n,s,b,ar⟩⟩,rfl,rfl,rfl,rfl,rfl,rfl,rfl,rfl,ok1,λ_ _=>⟨⟨by decide,by rw[y5g];omega⟩,⟨[],Y,M++[⟨n,s,b,ar⟩]⟩,rfl,rfl,tl1 _ _ _,tl2 _ _ _ _,⟨k',by dsimp only;omega,?_,by dsimp only;rw[y5a,y6z];omega⟩,by dsimp only;rw[y5g];omega,by(repeat'(first|exact trivial|exact rfl|apply ao))⟩⟩;rw[hM,vL,y5p,y5i];rfl
  rcases y with _|⟨b,Y⟩
  ·refine⟨ar,λt=>t=au,Cv.cnd.mk (λ_=>⟨au,rfl,rfl,by(repeat'(first|exact trivial|exact rfl|apply ao))⟩) (λe=>absurd e (by simp)),?_⟩;rintro _ rfl;refine Cv.cnd.mk (λ_=> ?_) (λc=>absurd c (by decide));rw[y5g]at hk;refine⟨⟨by decide,by rw[y5g];omega⟩,a.price,(lvx a X).1,⟨_,⟨n,s,⟨a.price,0,0⟩,ar⟩⟩,rfl,rfl,rfl,rfl,rfl,rfl,rfl,rfl,ok1,λ_ _=>⟨⟨by decide,by rw[y5g];omega⟩,⟨X,[],M++[⟨n,s,⟨a.price,0,0⟩,ar⟩]⟩,rfl,rfl,tl1 _ _ _,tl2 _ _ _ _,⟨k',by dsimp only;simp only[y6v]at hk ⊢;omega,?_,by dsimp only;rw[y5a,y6z];omega⟩,by dsimp only;rw[y5g];omega,by(repeat'(first|exact trivial|exact rfl|apply ao))⟩⟩;rw[hM,vL,y5p,y5i];rfl
  rw[y5g,y5g]at hk;have la:(0:Int)<=0/\(0:Int)<((a::X).length:Nat):=⟨by decide,by rw[y5g];omega⟩
  have lb:(0:Int)<=0/\(0:Int)<((b::Y).length:Nat):=⟨by decide,by rw[y5g];omega⟩
  have la1:(0:Int)<=1/\(1:Int)<=((a::X).length:Nat):=⟨by decide,by rw[y5g];omega⟩
  have lb1:(0:Int)<=1/\(1:Int)<=((b::Y).length:Nat):=⟨by decide,by rw[y5g];omega⟩
  refine⟨ar,λt=>t=btr s a.price b.price,Cv.cnd.mk (λe=> ?_) (λ_=>Cv.cnd.mk (λ_=>⟨la,a.price,(lvx a X).1,lb,b.price,(lvx b Y).1,⟨s,a.price,b.price⟩,rfl,rfl,rfl,trivial,λ_ _=>⟨_,rfl,rfl,by(repeat'(first|exact trivial|exact rfl|apply ao))⟩⟩) (λe=> ?_)),?_⟩
  ·exfalso;simp at e;omega
  ·exfalso;simp at e
  rintro _ rfl;refine Cv.cnd.mk (λc1=> ?_) (λc1=> ?_)
  ·refine⟨la,a.price,(lvx a X).1,⟨_,⟨n,s,⟨a.price,0,0⟩,ar⟩⟩,rfl,rfl,rfl,rfl,rfl,rfl,rfl,rfl,ok1,λ_ _=>⟨la1,⟨X,b::Y,M++[⟨n,s,⟨a.price,0,0⟩,ar⟩]⟩,rfl,rfl,tl1 _ _ _,tl2 _ _ _ _,⟨k',by dsimp only;rw[y5g];omega,?_,by dsimp only;rw[y5a,y6z];omega⟩,by dsimp only;rw[y5g,y5g];omega,by(repeat'(first|exact trivial|exact rfl|apply ao))⟩⟩;rw[hM,vL,y5d c1,y5p,y5i];rfl
  have c1:¬btr s a.price b.price=au:=by simp[c1]
  refine⟨ar,λt=>t=btr s b.price a.price,Cv.cnd.mk (λe=> ?_) (λ_=>⟨lb,b.price,(lvx b Y).1,la,a.price,(lvx a X).1,⟨s,b.price,a.price⟩,rfl,rfl,rfl,trivial,λ_ _=>⟨_,rfl,rfl,by(repeat'(first|exact trivial|exact rfl|apply ao))⟩⟩),?_⟩
  ·exfalso;simp at e;omega
  rintro _ rfl;refine Cv.cnd.mk (λc2=> ?_) (λc2=> ?_)
  ·refine⟨lb,b.price,b.qty,b.count,(lvx b Y).2,⟨_,⟨n,s,b,ar⟩⟩,rfl,rfl,rfl,rfl,rfl,rfl,rfl,rfl,ok1,λ_ _=>⟨lb1,⟨a::X,Y,M++[⟨n,s,b,ar⟩]⟩,rfl,rfl,tl1 _ _ _,tl2 _ _ _ _,⟨k',by dsimp only;rw[y5g];omega,?_,by dsimp only;rw[y5a,y6z];omega⟩,by dsimp only;rw[y5g,y5g];omega,by(repeat'(first|exact trivial|exact rfl|apply ao))⟩⟩;rw[hM,vL,y5b c1,y5d c2,y5p,y5i];rfl
  have c2:¬btr s b.price a.price=au:=by simp[c2]
  by_cases hab:a=b
  ·refine⟨⟨_,_⟩,rfl,rfl,λD=>D=⟨d.seq+(M.length:Nat),d.out++wI d.seq M⟩,⟨ar,λt=>t=ar,⟨la,a.price,a.qty,a.count,(lvx a X).2,lb,b.price,b.qty,b.count,(lvx b Y).2,_,rfl,by rw[yDr,y5s hab];rfl,by(repeat'(first|exact trivial|exact rfl|apply ao))⟩,?_⟩,?_⟩
   ·rintro _ rfl;exact Cv.cnd.mk (λc=>absurd c (by decide)) (λ_=>⟨_,rfl,rfl,rfl,by(repeat'(first|exact trivial|exact rfl|apply ao))⟩)
   rintro _ rfl;refine⟨la1,lb1,⟨X,Y,M⟩,rfl,rfl,rfl,rfl,⟨k',by dsimp only;omega,?_,by dsimp only;omega⟩,by dsimp only;rw[y5g,y5g];omega,by(repeat'(first|exact trivial|exact rfl|apply ao))⟩;rw[hM,vL,y5b c1,y5b c2,y5d hab];rfl
  ·refine⟨⟨_,_⟩,rfl,rfl,λD=>D=Dfr.add ⟨d.seq+(M.length:Nat),d.out++wI d.seq M⟩ [⟨n,s,b,ar⟩],⟨ar,λt=>t=au,⟨la,a.price,a.qty,a.count,(lvx a X).2,lb,b.price,b.qty,b.count,(lvx b Y).2,_,rfl,by rw[yDr,y5q hab];rfl,by(repeat'(first|exact trivial|exact rfl|apply ao))⟩,?_⟩,?_⟩
   ·rintro _ rfl;exact Cv.cnd.mk (λ_=>⟨lb,b.price,b.qty,b.count,(lvx b Y).2,⟨_,⟨n,s,b,ar⟩⟩,rfl,rfl,rfl,rfl,rfl,rfl,rfl,rfl,ok1,λ_ _=>⟨_,rfl,rfl,rfl,by(repeat'(first|exact trivial|exact rfl|apply ao))⟩⟩) (λc=>absurd c (by decide))
   rintro _ rfl;refine⟨la1,lb1,⟨X,Y,M++[⟨n,s,b,ar⟩]⟩,rfl,rfl,tl1 _ _ _,tl2 _ _ _ _,⟨k',by dsimp only;omega,?_,by dsimp only;rw[y5a,y6z];omega⟩,by dsimp only;rw[y5g,y5g];omega,by(repeat'(first|exact trivial|exact rfl|apply ao))⟩;rw[hM,vL,y5b c1,y5b c2,y5b hab,y5l,y5i];rfl
 obtain rfl:x=[]:=y6d (by omega);obtain rfl:y=[]:=y6d (by omega);rw[yFs,y8t,y6a]at hM;rw[yDr];refine⟨ar,λt=>t=yKc ⟨al,ai,ah⟩ ⟨bl,bi,bh⟩,Cv.cnd.mk (λe=>⟨au,rfl,?_,by(repeat'(first|exact trivial|exact rfl|apply ao))⟩) (λe=>⟨_,rfl,?_,by(repeat'(first|exact trivial|exact rfl|apply ao))⟩),?_⟩
 ·have e:ai≠bi:=by simpa using e
  rw[yKc];simp[e]
 ·have e:ai=bi:=by simpa using e
  rw[yKc,e];cases ah<;>cases bh<;>simp
 rintro _ rfl;refine Cv.cnd.mk (λe=>⟨bi,rfl,rfl,rfl,λl=>l=yAw ⟨bl,bi,bh⟩,Cv.cnd.mk (λe2=>⟨lv0,rfl,rfl,rfl,?_,by(repeat'(first|exact trivial|exact rfl|apply ao))⟩) (λe2=>⟨bi,rfl,rfl,rfl,?_,by(repeat'(first|exact trivial|exact rfl|apply ao))⟩),?_⟩) (λe=> ?_)
 ·rw[yAw,y5b (by simpa using e2)]
 ·rw[yAw,y5d (by simpa using e2)]
 ·rintro _ rfl;have hsd:j9 n s ⟨al,ai,ah⟩ ⟨bl,bi,bh⟩=M++[⟨n,s,yAw ⟨bl,bi,bh⟩,au⟩]:=by rw[j9,y5d e,hM]
  rw[hsd];exact⟨⟨_,⟨n,s,yAw ⟨bl,bi,bh⟩,au⟩⟩,rfl,rfl,rfl,rfl,rfl,rfl,rfl,rfl,ok1,λ_ _=>⟨(),tl1 _ _ _,tl2 _ _ _ _,trivial⟩⟩
 ·have hsd:j9 n s ⟨al,ai,ah⟩ ⟨bl,bi,bh⟩=M:=by rw[j9,y5b (by simp[e]),hM,y6a]
  rw[hsd];exact⟨(),rfl,rfl,trivial⟩
def yHb:dsideC.ok Tryz.prog 142:=okw mixed (gokc yFy (gokc zSf gok0)) 0 (λ_=>yUn) (λi=>yWh i) [] Tryz.func142 yUo
def y0w (i:DvI) (h:diffC.cnd i):yRu i:=by
 obtain⟨hvw,⟨s1,s2⟩,l1,l2,hn⟩:i.v.length=i.w.length/\(-4000000000000000000<=i.seq/\i.seq<=4000000000000000000)/\Vw.levs i.v<=100000000/\Vw.levs i.w<=100000000/\i.v.length<=1000000:=h;have hmx:(i.v.map yG).length=i.v.length:=y5c _;have hmy:(i.w.map yG).length=i.w.length:=y5c _;unfold yRu fE dC dW pF zAv nG zHj dI;rw[hmx,hmy];refine Cv.cnd.mk (λc=> ?_) (λ_=> ?_)
 ·have c:(i.v.length:Int)≠i.w.length:=by simpa using c
  omega
 refine⟨0,rfl,by simp[jX],by simp[jX,wI],λj=>j<=i.v.length,λj=>i.v.length-j,y6i _,λj hj=>zI (λe=> ?_) (λe=> ?_)⟩
 ·have hj:j<=i.v.length:=hj;obtain⟨a,ha⟩:=yC (l:=i.v) (i:=j) (by omega);obtain⟨b,hb⟩:=yC (l:=i.w) (i:=j) (by omega);have hd:=yDh i.v i.w j hj (by omega);have t1:=lO ha;have t2:=lO hb;have u1:=z5j i.v (j+1);have u2:=z5j i.w (j+1);have q1:=z4q j 1 a.1 b.1;have hvt:=zVu 0 j ha hb;rw[y6c]at hvt;have bdv:(0:Int)<=j/\(j:Int)<(i.v.length:Nat):=⟨by omega,e⟩
  have bdw:(0:Int)<=j/\(j:Int)<(i.w.length:Nat):=⟨by omega,by omega⟩
  obtain⟨D,hD⟩:∃D:Dfr,D=Dfr.add ⟨i.seq,[]⟩ (jX 0 (i.v.take j) (i.w.take j)):=⟨_,rfl⟩
  have hDs:D.seq=i.seq+((jX 0 (i.v.take j) (i.w.take j)).length:Nat):=by rw[hD];rfl
  have hDo:D.out=[]++wI i.seq (jX 0 (i.v.take j) (i.w.take j)):=by rw[hD];rfl
  have hDl:D.out.length=(jX 0 (i.v.take j) (i.w.take j)).length:=by rw[hDo,y7v,nI]
  refine⟨⟨by decide,by decide⟩,1,rfl,bdv,_,_,_,_,_,(yLa ha).2.1,bdw,_,_,_,_,_,(yLa hb).2.1,⟨D,j,1,a.1,b.1⟩,rfl,rfl,rfl,rfl,rfl,rfl,rfl,rfl,rfl,rfl,rfl,rfl,hDs,by rw[hDo],⟨by dsimp only;omega,by dsimp only;omega,by dsimp only;omega⟩,λ_ _=>⟨⟨by decide,by decide⟩,2,rfl,bdv,_,_,_,_,_,(yLa ha).2.2,bdw,_,_,_,_,_,(yLa hb).2.2,⟨D.add (j9 j 1 a.1 b.1),j,2,a.2,b.2⟩,rfl,rfl,rfl,rfl,rfl,rfl,rfl,rfl,rfl,rfl,rfl,rfl,rfl,rfl,⟨by simp only[Dfr.add];omega,by simp only[Dfr.add];omega,by simp only[Dfr.add];rw[y5a,nI];omega⟩,λ_ _=>⟨j+1,wjn (by omega),?_,?_,by dsimp only;omega,by dsimp only;omega,by(repeat'(first|exact trivial|exact rfl|apply ao))⟩⟩⟩
  ·show(Dfr.add ⟨i.seq,[]⟩ (jX 0 (i.v.take (j+1)) (i.w.take (j+1)))).seq=((D.add (j9 j 1 a.1 b.1)).add (j9 j 2 a.2 b.2)).seq;rw[hvt,hD,zKz,zKz]
  ·show(Dfr.add ⟨i.seq,[]⟩ (jX 0 (i.v.take (j+1)) (i.w.take (j+1)))).out.map xJ=((D.add (j9 j 1 a.1 b.1)).add (j9 j 2 a.2 b.2)).out.map xJ;rw[hvt,hD,zKz,zKz]
 ·have hj:j<=i.v.length:=hj;rw[y5n (by omega),y5n (by omega)];exact⟨(),rfl,trivial⟩
def yFo:diffC.ok Tryz.prog 101:=okw mixed (gokc yHb gok0) 1 (λ_=>[]) (λi=>y2m i) [] Tryz.func101 y0w
def yQf:∀{l:List zH} {v:Lv},v∈grp l->(1<=v.count/\v.count<=l.length)/\∃o∈l,o.price=v.price
 |[],v,h=>by cases h
 |o::l,v,h=>by
  have ih:∀v∈grp l,(1<=v.count/\v.count<=l.length)/\∃o∈l,o.price=v.price:=λv hv=>yQf hv
  rw[grp]at h;rw[y5g];split at h
  ·rw[y6r]at h;subst h;exact⟨by dsimp only;omega,o,y5h,rfl⟩
  ·rename_i w ws e;rw[e]at ih;have hw:=ih w y5h;split at h
   ·rename_i ep;rcases y5w.1 h with rfl|h
    ·exact⟨by dsimp only;omega,o,y5h,ep.symm⟩
    ·obtain⟨a,x,hx,hp⟩:=ih v (y5j _ h);exact⟨by omega,x,y5j _ hx,hp⟩
   ·rcases y5w.1 h with rfl|h
    ·exact⟨by dsimp only;omega,o,y5h,rfl⟩
    ·obtain⟨a,x,hx,hp⟩:=ih v h;exact⟨by omega,x,y5j _ hx,hp⟩
def z5u:∀l:List zH,(grp l).length<=l.length
 |[]=>y5x 0
 |o::l=>by
  have ih:=z5u l;rw[grp,y5g];cases e:grp l with
  |nil=>simp
  |cons w ws=>
   rw[e,y5g]at ih;dsimp only;split
   ·rw[y5g];omega
   ·rw[y5g,y5g];omega
def yWu {s:Int} {L:List Lv} (h:yNs s L) (hp:∀l∈L,1<=l.qty/\1<=l.count) (i:Nat):LvAt s L i:=by
 intro a ha;have hm:=hp a (y5m ha);refine⟨hm.1,hm.2,?_⟩;rintro j b rfl hb;obtain⟨h1,e1⟩:=y5f.1 ha;obtain⟨h2,e2⟩:=y5f.1 hb;have:=(List.pairwise_iff_getElem.1 h) j (j+1) h2 h1 (xAh j);rw[e1,e2]at this;exact this
def z5i {p:Prd} {B:List (List zH)} (h:BWf p B) {k:Nat} {L:List zH} (hL:B[k]? =aw L) {s:Int} (hs:s=1\/s=2):
 (∀i,LvAt s (hU L s) i)/\(hU L s).length<=255/\∀l∈hU L s,(1<=l.qty/\l.qty<=250000000)/\l.fit:=by
 obtain⟨h1,h2,h3⟩:=h.od k L hL;have hf:(L.filter λo=>decide (o.side=s)).length<=L.length:=y8n _ _;have hl:=z5u (L.filter λo=>decide (o.side=s));have hall:∀l∈hU L s,(1<=l.qty/\l.qty<=250000000)/\(1<=l.count/\l.count<=250)/\(-2000000<=l.price/\l.price<=2000000):=λl hm=>by
  have q:=z6p (λo ho=>h1 o (y7c.1 ho).1) hm;obtain⟨c,o,ho,e⟩:=yQf hm;have hp:=h.ok.prices hL o (y7c.1 ho).1;rw[e]at hp;exact⟨by omega,by omega,hp⟩
 refine⟨yWu (yLj h hL hs).1 λl hm=>⟨(hall l hm).1.1,(hall l hm).2.1.1⟩,by rw[hU];omega,λl hm=> ?_⟩;obtain⟨a,b,c⟩:=hall l hm;exact⟨a,⟨by omega,by omega⟩,⟨by omega,by omega⟩,⟨by omega,by omega⟩⟩
def zYj {p:Prd} {B:List (List zH)} (h:BWf p B) {k:Nat} {L:List zH} (hL:B[k]? =aw L) {s:Int} (hs:s=1\/s=2) (hb:(bestL L s).2=au):1<=(bestL L s).1.qty/\(bestL L s).1.qty<=250000000:=by
 have hm:(bestL L s).1∈hU L s:=by
  rw[bestL]at hb ⊢;split at hb
  ·cases hb
  ·rename_i v vs e;rw[e];exact y5h
 exact((z5i h hL hs).2.2 _ hm).1
def yRp {p:Prd} {B:List (List zH)} (h:BWf p B) {i s:Int} (hi:0<=i/\i<(B.map qW).length) (hs:s=1\/s=2) (hh:((B.map qW).getD i.toNat top0).has s=au):1<=((B.map qW).getD i.toNat top0).qty s/\((B.map qW).getD i.toNat top0).qty s<=250000000:=by
 rw[y5c]at hi;obtain⟨L,hL⟩:=yC (l:=B) (i:=i.toNat) (by omega);have e:(B.map qW).getD i.toNat top0=qW L:=by rw[y5k,y6q,hL];rfl
 rw[e]at hh ⊢;obtain⟨t1,t2,t3,t4,t5,t6⟩:=zLm L;rcases hs with rfl|rfl
 ·rw[Top.has,y5d rfl,t3]at hh;rw[Top.qty,y5d rfl,t2];exact zYj h hL (.inl rfl) hh
 ·rw[Top.has,y5b (by decide),t6]at hh;rw[Top.qty,y5b (by decide),t5];exact zYj h hL (.inr rfl) hh
def yLi {p:Prd} {B:List (List zH)} (h:BWf p B) {n s:Int} (hs:s=1\/s=2) {q:Quote} (hq:q∈xX ⟨p,B.map qW,n⟩ s):(1<=q.qty/\q.qty<=250000000)/\(-2000000<=q.price/\q.price<=2000000):=by
 rw[xX,y7c]at hq;obtain⟨ok,-⟩:=z7b h.ok.pc (by rw[y5c,h.ok.bl]) hs hq.1;have qa:=yRp h ok.a ok.sa ok.ha;have qb:=yRp h ok.b ok.sb ok.hb;have hp:p.price n q.price=0:=by simpa using hq.2
 exact⟨by rw[ok.qty];omega,lC h.ok.pc hp⟩
def zIo (b:Quote) {M:Int}:∀(l:List Quote) (a:Int×Int),(∀q∈l,1<=q.qty/\q.qty<=M)->1<=a.1->a.1<=M->
 (1<=(l.foldl (λa q=>if q.price=b.price then(if q.qty>a.1 then q.qty else a.1,a.2+1)else a) a).1/\(l.foldl (λa q=>if q.price=b.price then(if q.qty>a.1 then q.qty else a.1,a.2+1)else a) a).1<=M)/\
 a.2<=(l.foldl (λa q=>if q.price=b.price then(if q.qty>a.1 then q.qty else a.1,a.2+1)else a) a).2/\(l.foldl (λa q=>if q.price=b.price then(if q.qty>a.1 then q.qty else a.1,a.2+1)else a) a).2<=a.2+l.length/\
 (b∈l->a.2+1<=(l.foldl (λa q=>if q.price=b.price then(if q.qty>a.1 then q.qty else a.1,a.2+1)else a) a).2)
 |[],a,_,h1,h2=>⟨⟨h1,h2⟩,y8p _,by simp,λh=>by cases h⟩
 |q::l,a,hq,h1,h2=>by
  have q0:=hq q y5h;rw[y8v,y5g];by_cases e:q.price=b.price
  ·rw[y5d e];obtain⟨r1,r2,r3,r4⟩:=zIo b (M:=M) l (if q.qty>a.1 then q.qty else a.1,a.2+1) (λx hx=>hq x (y5j _ hx)) (by dsimp only;split<;>omega) (by dsimp only;split<;>omega);dsimp only at r2 r3;exact⟨r1,by omega,by omega,λ_=>r2⟩
  ·rw[y5b e];obtain⟨r1,r2,r3,r4⟩:=zIo b (M:=M) l a (λx hx=>hq x (y5j _ hx)) h1 h2;refine⟨r1,r2,by omega,λhb=> ?_⟩;rcases y5w.1 hb with rfl|hb
   ·exact absurd rfl e
   ·exact r4 hb
def yIy {l:List Quote} {s:Int} (hl:l.length<=100) (h:∀q∈l,(1<=q.qty/\q.qty<=250000000)/\(-2000000<=q.price/\q.price<=2000000)):
 ((qH l s).2=au->1<=(qH l s).1.qty/\1<=(qH l s).1.count)/\((qH l s).2=ar->(qH l s).1=⟨0,0,0⟩)/\(qH l s).1.fit:=by
 by_cases e:(zW l s).2=au
 ·have hm:=zHg e;have hb:=h _ hm;have:=zIo (zW l s).1 (M:=250000000) l ((zW l s).1.qty,0) (λq hq=>(h q hq).1) hb.1.1 hb.1.2;have e2:qH l s=(⟨(zW l s).1.price,(dB l (zW l s).1).1,(dB l (zW l s).1).2⟩,au):=by rw[qH,y5d e]
  rw[e2];rw[<- dB]at this;obtain⟨r1,r2,r3,r4⟩:=this;have r4:=r4 hm;dsimp only at r2 r3 r4 ⊢;exact⟨λ_=>⟨r1.1,by omega⟩,λx=>(by cases x),⟨by dsimp only;omega,by dsimp only;omega⟩,⟨by dsimp only;omega,by dsimp only;omega⟩,⟨by dsimp only;omega,by dsimp only;omega⟩⟩
 ·have e2:qH l s=(⟨0,0,0⟩,ar):=by rw[qH,y5b e]
  rw[e2];exact⟨λx=>(by cases x),λ_=>rfl,⟨by decide,by decide⟩,⟨by decide,by decide⟩,⟨by decide,by decide⟩⟩
def dK {p:Prd} {B:List (List zH)} (h:BWf p B):c9 (yX p B)/\y0e (yX p B)/\zBh (yX p B):=by
 have hc:=xK p;have hlen:=zIx p B;have hside:∀k,k<p.count->∀s,s=1\/s=2->SdRight s (zEn p B k s)/\(zEn p B k s).fit:=λk hk s hs=>by
  obtain⟨L,hL⟩:=yC (l:=B) (i:=k) (by rw[h.ok.bl];exact hk);have e:B.getD k []=L:=zU hL;obtain⟨a1,a2,a3⟩:=z5i h hL hs;obtain⟨b1,b2,b3⟩:=yIy (s:=s) (zJv ⟨p,B.map qW,k⟩ s) (λq hq=>yLi h hs hq);rw[zEn,e];exact⟨⟨a1,a2,b1,b2⟩,λx hx=>(a3 x hx).2,b3⟩
 have hmem:∀b∈yX p B,∃k,k<p.count/\b=(zEn p B k 1,zEn p B k 2):=λb hb=>by
  rw[yX]at hb;obtain⟨k,hk,rfl⟩:=y6n.1 hb;exact⟨k,y8b.1 hk,rfl⟩
 refine⟨⟨λb hb=> ?_,by omega⟩,λb hb=> ?_,⟨by omega,λb hb=> ?_⟩⟩
 ·obtain⟨k,hk,rfl⟩:=hmem b hb;exact⟨(hside k hk 1 (.inl rfl)).1,(hside k hk 2 (.inr rfl)).1⟩
 ·obtain⟨k,hk,rfl⟩:=hmem b hb;exact⟨(hside k hk 1 (.inl rfl)).2,(hside k hk 2 (.inr rfl)).2⟩
 ·obtain⟨k,hk,rfl⟩:=hmem b hb;have a:=(hside k hk 1 (.inl rfl)).1.2.1;have c:=(hside k hk 2 (.inr rfl)).1.2.1;dsimp only;omega
structure VwG (p:Prd) (v:Vw):Prop where
 r:c9 v
 f:y0e v
 s:zBh v
 len:v.length=p.count
def zVy {p:Prd} {B:List (List zH)} (h:BWf p B):VwG p (yX p B):=⟨(dK h).1,(dK h).2.1,(dK h).2.2,zIx p B⟩
def yJv {p:Prd} {v:Vw} (h:VwG p v):Vw.levs v<=510*v.length:=by
 have:∀{v:Vw},(∀b∈v,SdRight 1 b.1/\SdRight 2 b.2)->Vw.levs v<=510*v.length:=by
  intro v
  induction v with
  |nil=>intro _;exact y5x _
  |cons a v ih=>
   intro h;have ha:=h a y5h;have:=ih λb hb=>h b (y5j _ hb)
   have h1:=ha.1.2.1;have h2:=ha.2.2.1;rw[Vw.levs]at this ⊢;rw[y5p,y6s,y5g];omega
 exact this h.r.1
@[reducible] def y3g (v:Vw):AObj:= .own 130 10 (v.map yG)
@[reducible] def zKm (v:Vw):AObj:= .fro 10 (v.map yG)
def lookOC:Con:=con1 LkI (λi=>[prdV i.p,.nm 0 0]) (λi=>[zD i.s]) (λi=>i.s.Rep i.p i.B/\BOk i.p i.B) (λ_=> .agg [.own 1]) (λi=>[zD i.s,y3g (yX i.p i.B)])
def gchkC:Con:=con1 SbI (λi=>[.nm 0 0,zA i.s,roV 1 (bE i.b)]) (λ_=>[.gone]) (λi=>i.b.length<=1099511627776) (λi=>zA (zS i.s i.b).2) (λ_=>[.gone])
def glookC:Con:=con1 Gt (λ_=>[.nm 0 0]) (λg=>GtO g) (λ_=>True) (λ_=> .nm 1 0) (λg=>GtO g)
def mlookC:Con:=con1 Mkt (λ_=>[.nm 0 0]) (λm=>zBj m) (λ_=>True) (λ_=> .nm 1 0) (λm=>zBj m)
structure En where
 p:Prd
 v:Vw
 q:Int
 R:List (List UInt8)
@[reducible] def yLm:Nat:=95
def enC (e:En) (r l:Nat):AObj:= .cells [sV e.p.code,.own 5,zA e.p.tick,zA e.p.low,zA e.p.high,zA e.p.wide,zA e.p.rule,zA e.p.top,zA e.p.least,zA e.p.part,.own 6,.nm 1 0,.nm 2 0,.own l,zA e.q,.own r] yLm
structure Es where
 B:List (List zH)
 U:List Int
 W:List (Int×Int)
 q:Int
 R:List (List UInt8)
def Es.en (x:Es) (p:Prd):En:=⟨p,yX p x.B,x.q,x.R⟩
def fT (s:Int) (b:List UInt8):List UInt8:=lob s::b
def Es.X (x:Es) (p:Prd) (s:Int) (b:List UInt8):GtX:=lI p x.B x.U x.W s b
def Es.M (x:Es) (p:Prd) (s:Int) (b:List UInt8):List VM:=jX 0 (yX p x.B) (yX p (x.X p s b).B)
def Es.ed (x:Es) (p:Prd) (s:Int) (b:List UInt8):Es:=⟨(x.X p s b).B,(x.X p s b).U,(x.X p s b).W,x.q+(x.M p s b).length,x.R++[fT s b]⟩
structure EdI where
 o:Mkt
 x:Es
 p:Prd
 s:Int
 b:List UInt8
def EdI.g (i:EdI):Gt:=⟨i.o,i.x.W⟩
@[reducible] def EdI.ok (i:EdI):Prop:=(i.o.Rep i.p i.x.B i.x.U/\BOk i.p i.x.B)/\i.b.length<=1048576/\(0<=i.s/\i.s<8)/\(0<=i.x.q/\i.x.q<=1000000000000000000)/\i.x.R.length<=1000000
def EdI.Y (i:EdI):Es:=i.x.ed i.p i.s i.b
def EdI.N (i:EdI):List z1c:=wI i.x.q (i.x.M i.p i.s i.b)
def EdI.O (i:EdI):List (Int×Rep):=(i.x.X i.p i.s i.b).O
def EdI.rows (i:EdI):List AObj:=[enC (i.x.en i.p) 4 7,.gone,GtR i.g,.gone,rcR i.x.R,.fro 1 (iE i.p.months),.fro 1 (iE i.p.settle),zKm (yX i.p i.x.B)]
def edC:Con where
 ι:=EdI
 pat:=λi=>[.nm 0 0,zA i.s,roV 1 (bE i.b)]
 pre:=λi=>i.rows
 cnd:=λi=>i.ok
 alts:=λi=>[{o:=Mkt,res:=λ_=> .agg [.own 10,.own 11],post:=λo=>[enC (i.Y.en i.p) 8 9,.gone,GtR ⟨o,i.Y.W⟩,.gone,.gone,.fro 1 (iE i.p.months),.fro 1 (iE i.p.settle),.gone,rcR i.Y.R,zKm (yX i.p i.Y.B),z4w i.O,yBd i.N],rel:=λo=>o.Rep i.p i.Y.B i.Y.U}]
def yGu (i:LkI):Prop:=
 ∃(a:Prd),sb a.code=sb i.p.code/\iE a.months=iE i.p.months/\a.tick=i.p.tick/\a.low=i.p.low/\a.high=i.p.high/\a.wide=i.p.wide/\a.rule=i.p.rule/\a.top=i.p.top/\a.least=i.p.least/\a.part=i.p.part/\iE a.settle=iE i.p.settle/\(z5 a)/\∀(b:Unit),True->cnd (a.check !=0) (∃(c:Unit),dh (zD i.s)/\aa yG (yX i.p i.B)=[]/\True) (∃(c:MSt),zD c=zD i.s/\(dE c)/\∀(d:Unit),True->∃(e:Prd),sb e.code=sb i.p.code/\iE e.months=iE i.p.months/\e.tick=i.p.tick/\e.low=i.p.low/\e.high=i.p.high/\e.wide=i.p.wide/\e.rule=i.p.rule/\e.top=i.p.top/\e.least=i.p.least/\e.part=i.p.part/\iE e.settle=iE i.p.settle/\(z5 e)/\∀(f:Unit),True->∃(g:Nat),(↑g:Int)=0/\aa yG (ab g (yX i.p i.B))=[]/\aa z6 (aa qW i.B)=aa z6 c.tops/\∃(h:Nat->Prop),∃(j:Nat->Nat),h g/\∀(k:Nat),h k->cnd (decide ((↑k:Int)<(↑e.count:Int))) (((0:Int)<=(0:Int)/\0<(↑(2:Nat):Int))/\∃(l:Int),zE [[dI 1],[dI 2]] (av 0) 0 1=aw [dI l]/\∃(m:SoI),m.inst=(↑k:Int)/\zC m.sd=l/\zD m.s=zD c/\(m.s.Rep m.p m.B/\m.B.length<=1000)/\∀(n:Unit),True->∃(p:tW),sb p.i.p.code=sb i.p.code/\iE p.i.p.months=iE i.p.months/\p.i.p.tick=i.p.tick/\p.i.p.low=i.p.low/\p.i.p.high=i.p.high/\p.i.p.wide=i.p.wide/\p.i.p.rule=i.p.rule/\p.i.p.top=i.p.top/\p.i.p.least=i.p.least/\p.i.p.part=i.p.part/\iE p.i.p.settle=iE i.p.settle/\aa z6 p.i.tops=aa z6 (aa qW i.B)/\p.i.inst=(↑k:Int)/\zC p.s=l/\(kF p)/\∀(q:Unit),True->∃(r:BsI),aa zJ r.l=aa zJ (xX p.i (zC p.s))/\r.s=l/\(dJ r)/\∀(s:Unit),True->(fE)/\∃(t:Int),zE [[dI 1],[dI 2]] (ap.wrap ((0:Int)+(1:Int))).toNat 0 1=aw [dI t]/\∃(u:SoI),u.inst=(↑k:Int)/\zC u.sd=t/\zD u.s=zD m.s/\(u.s.Rep u.p u.B/\u.B.length<=1000)/\∀(v:Unit),True->∃(w:tW),sb w.i.p.code=sb i.p.code/\iE w.i.p.months=iE i.p.months/\w.i.p.tick=i.p.tick/\w.i.p.low=i.p.low/\w.i.p.high=i.p.high/\w.i.p.wide=i.p.wide/\w.i.p.rule=i.p.rule/\w.i.p.top=i.p.top/\w.i.p.least=i.p.least/\w.i.p.part=i.p.part/\iE w.i.p.settle=iE i.p.settle/\aa z6 w.i.tops=aa z6 (aa qW i.B)/\w.i.inst=(↑k:Int)/\zC w.s=t/\(kF w)/\∀(x:Unit),True->∃(y:BsI),aa zJ y.l=aa zJ (xX w.i (zC w.s))/\y.s=t/\(dJ y)/\∀(z:Unit),True->((aa yG (ab k (yX i.p i.B))).length+1)*(112:Nat)<=(140737488355328:Nat)/\∃(a_1:Nat),(↑a_1:Int)=ap.wrap ((↑k:Int)+1)/\aa yG (ab a_1 (yX i.p i.B))=aa yG (ab k (yX i.p i.B))++[[D.ro 3 (aa lvE (b8 m)),dI ((qH r.l r.s).fst.price),dI ((qH r.l r.s).fst.qty),dI ((qH r.l r.s).fst.count),D.v (.bool (qH r.l r.s).snd),D.ro 3 (aa lvE (b8 u)),dI ((qH y.l y.s).fst.price),dI ((qH y.l y.s).fst.qty),dI ((qH y.l y.s).fst.count),D.v (.bool (qH y.l y.s).snd)]]/\dh (aj 6 (aa z6 (aa qW i.B)))/\h a_1/\j a_1<j k/\zD u.s=zD c/\dh (ak (Sx.V.agg [V.d vN]).cl 71)/\dh (ak [V.d (D.v (ax (sb i.p.code))),V.own 1,V.d (dI i.p.tick),V.d (dI i.p.low),V.d (dI i.p.high),V.d (dI i.p.wide),V.d (dI i.p.rule),V.d (dI i.p.top),V.d (dI i.p.least),V.d (dI i.p.part),V.own 2] 25)/\dh (aj 1 (iE i.p.settle))/\dh (aj 1 (iE i.p.months))) (∃(l:Unit),zD i.s=zD c/\aa yG (yX i.p i.B)=aa yG (ab k (yX i.p i.B))/\True))
def yZy (i:SbI):Prop:=
 ∃(i_1:SbI),i_1.s=i.s/\bE i_1.b=bE i.b/\i_1.b.length<=1099511627776/\∀(o:Unit),True->∃(o:Unit),(zS i.s i.b).snd=(zS i_1.s i_1.b).snd/\True
def yVf (g:Gt):Prop:=
 ∃(o:Unit),AObj.adt Mkt 5 yW g.m=jA g.m/\dh (xM g.W)/\True
def yXs (m:Mkt):Prop:=
 ∃(o:Unit),dh (sb m.p.code)/\dh m.p.tick/\dh m.p.low/\dh m.p.high/\dh m.p.wide/\dh m.p.rule/\dh m.p.top/\dh m.p.least/\dh m.p.part/\zD m.s=yW m 1/\dh (zV m.used)/\aj 1 (iE m.p.months)=yW m 3/\aj 1 (iE m.p.settle)=yW m 4/\True
def zAk (a:EdI):Prop:=sb a.p.code=sb a.p.code/\True/\dh a.p.tick/\dh a.p.low/\dh a.p.high/\dh a.p.wide/\dh a.p.rule/\dh a.p.top/\dh a.p.least/\dh a.p.part/\True/\True
def l8 (a:EdI):=(aa yG (yX a.p (a.x.X a.p a.s a.b).B))
def z3w (a:EdI) (b:Mkt) (c:Gt) (d:List (List UInt8)) (e:GdI):Prop:=∃(f:LkI),sb f.p.code=sb a.p.code/\iE f.p.months=iE a.p.months/\f.p.tick=a.p.tick/\f.p.low=a.p.low/\f.p.high=a.p.high/\f.p.wide=a.p.wide/\f.p.rule=a.p.rule/\f.p.top=a.p.top/\f.p.least=a.p.least/\f.p.part=a.p.part/\iE f.p.settle=iE a.p.settle/\zD f.s=zD b.s/\(f.s.Rep f.p f.B/\BOk f.p f.B)/\∀(g:Unit),True->∃(h:DvI),aa yG h.v=aa yG (yX a.p a.x.B)/\aa yG h.w=aa yG (yX f.p f.B)/\h.seq=a.x.q/\(ae h.v=ae h.w/\((-4000000000000000000)<=h.seq/\h.seq<=4000000000000000000)/\h.v.levs<=100000000/\h.w.levs<=100000000/\ae h.v<=1000000)/\∀(j:Unit),True->∃(k:Mkt),dh (sb a.p.code)/\dh a.p.tick/\dh a.p.low/\dh a.p.high/\dh a.p.wide/\dh a.p.rule/\dh a.p.top/\dh a.p.least/\dh a.p.part/\a.x.q+(↑(a.x.M a.p a.s a.b).length:Int)=ap.wrap (a.x.q+(↑(aa xJ (wI h.seq (jX 0 h.v h.w))).length:Int))/\sb k.p.code=sb b.p.code/\k.p.tick=b.p.tick/\k.p.low=b.p.low/\k.p.high=b.p.high/\k.p.wide=b.p.wide/\k.p.rule=b.p.rule/\k.p.top=b.p.top/\k.p.least=b.p.least/\k.p.part=b.p.part/\zD k.s=zD f.s/\zV k.used=zV b.used/\aj 1 (iE k.p.months)=aj 1 (iE b.p.months)/\aj 1 (iE k.p.settle)=aj 1 (iE b.p.settle)/\xM (a.x.X a.p a.s a.b).W=xM c.W/\dh (aj 1 (iE a.p.months))/\dh (aj 1 (iE a.p.settle))/\aa rcE (a.x.R++[fT a.s a.b])=aa rcE a.x.R++[[D.ro 1 (bE d.flatten)]]/\aj 10 (l8 a)=aj 10 (aa yG (yX f.p f.B))/\aa k0 a.O=aa k0 e.X.O/\aa xJ a.N=aa xJ (wI h.seq (jX 0 h.v h.w))/\k.Rep a.p (a.x.X a.p a.s a.b).B (a.x.X a.p a.s a.b).U
def z1m (a:EdI) (b:Mkt) (c:Gt) (d:List (List UInt8)) (e:GdI):Prop:=(zAk a)/\z3w a b c d e
def z5e (a:EdI) (b:Gt) (c:List (List UInt8)) (d:GdI):Prop:=(zAk a)/\∃(e:Mkt),sb e.p.code=sb b.m.p.code/\e.p.tick=b.m.p.tick/\e.p.low=b.m.p.low/\e.p.high=b.m.p.high/\e.p.wide=b.m.p.wide/\e.p.rule=b.m.p.rule/\e.p.top=b.m.p.top/\e.p.least=b.m.p.least/\e.p.part=b.m.p.part/\zD e.s=zD b.m.s/\zV e.used=zV b.m.used/\aj 1 (iE e.p.months)=aj 1 (iE b.m.p.months)/\aj 1 (iE e.p.settle)=aj 1 (iE b.m.p.settle)/\True/\∀(f:Unit),True->z1m a e b c d
def zLi (a:GdI):Prop:=(a.g.m.Rep a.p a.B a.U/\BOk a.p a.B)/\a.b.length<=1099511627776/\a.X=lI a.p a.B a.U a.g.W a.s a.b
def Ved (i:EdI):Prop:=
 True/\True/\∃(a:List (List UInt8)),aa rcE a=[[D.ro 1 [[D.v (.int .u8 (aq.wrap i.s))]]],[D.ro 1 (bE i.b)]]/\(1<=a.flatten.length/\a.flatten.length<=1099511627776/\a.length<=1000)/\∀(b:Unit),True->True/\True/\((aa rcE i.x.R).length+1)*(24:Nat)<=(140737488355328:Nat)/\∃(c:GdI),c.s=i.s/\bE c.b=bE i.b/\GtR c.g=GtR i.g/\(zLi c)/\∀(d:Mkt),d.Rep c.p c.X.B c.X.U->(∃(e:Gt),jA e.m=jA d/\xM e.W=xM c.X.W/\True/\∀(f:Unit),True->(zAk i)/\(∃(g:Mkt),sb g.p.code=sb e.m.p.code/\g.p.tick=e.m.p.tick/\g.p.low=e.m.p.low/\g.p.high=e.m.p.high/\g.p.wide=e.m.p.wide/\g.p.rule=e.m.p.rule/\g.p.top=e.m.p.top/\g.p.least=e.m.p.least/\g.p.part=e.m.p.part/\zD g.s=zD e.m.s/\zV g.used=zV e.m.used/\aj 1 (iE g.p.months)=aj 1 (iE e.m.p.months)/\aj 1 (iE g.p.settle)=aj 1 (iE e.m.p.settle)/\True/\∀(h:Unit),True->(zAk i)/\(z3w i g e a c)/\z1m i g e a c)/\z5e i e a c)/\True/\(zAk i)/\∃(e:Gt),jA e.m=jA d/\xM e.W=xM c.X.W/\True/\∀(f:Unit),True->z5e i e a c
def yMf {n lo hi:Int} (h:lo<=hi):lo<=zF n lo hi/\zF n lo hi<=hi:=by
 have h1:=xBb n (show hi-lo+1≠0 by omega);have h2:=xBc n (show 0<hi-lo+1 by omega);rw[zF];constructor<;>omega
open Classical in
open Classical in
def yYz {p:Prd} {v w:Vw} (hv:VwG p v) (hw:VwG p w):v.length=w.length/\Vw.levs v<=100000000/\Vw.levs w<=100000000/\v.length<=1000000:=by
 have h1:=yJv hv;have h2:=yJv hw;have h3:=hv.r.2;have h4:=hw.r.2;exact⟨by rw[hv.len,hw.len],by omega,by omega,by omega⟩
def yVy (i:LkI) (h:lookOC.cnd i):yGu i:=by
 obtain⟨hR,hB⟩:i.s.Rep i.p i.B/\BOk i.p i.B:=h;have hcl:=xK i.p;have hbl:=hB.bl;have hcnt:i.s.cntOk:=hR.cnt (by omega);have hto:vG (i.B.map qW):=hB.tops;have hll:=zIx i.p i.B;unfold yGu fE b8 kF fD dJ dE vN z5 dI;refine⟨i.p,rfl,rfl,rfl,rfl,rfl,rfl,rfl,rfl,rfl,rfl,rfl,hB.ps,λ_ _=>Cv.cnd.mk (λc=>absurd hB.pc (by simpa using c)) (λ_=>⟨i.s,rfl,hcnt,λ_ _=>⟨i.p,rfl,rfl,rfl,rfl,rfl,rfl,rfl,rfl,rfl,rfl,rfl,hB.ps,λ_ _=>⟨0,rfl,rfl,by rw[hR.tops],λj=>j<=i.p.count,λj=>i.p.count-j,y6i _,λj hj=>zI (λhlt=> ?_) (λhlt=> ?_)⟩⟩⟩)⟩
 ·have hlt:j<i.p.count:=by omega
  have hat:atB i.B (j:Int)=i.B.getD j []:=by rw[atB,y5b (by omega),y5u]
  have hq:∀s,(xX ⟨i.p,i.B.map qW,j⟩ s).length<=1000000:=λs=>y7w (zJv _ _) (by decide)
  refine⟨⟨by decide,by decide⟩,1,rfl,⟨i.s,i.p,i.B,j,ar⟩,rfl,rfl,rfl,⟨hR,by dsimp only;omega⟩,λ_ _=>⟨⟨⟨i.p,i.B.map qW,j⟩,ar⟩,rfl,rfl,rfl,rfl,rfl,rfl,rfl,rfl,rfl,rfl,rfl,rfl,rfl,rfl,⟨hB.ps,hto⟩,λ_ _=>⟨⟨xX ⟨i.p,i.B.map qW,j⟩ 1,1⟩,rfl,rfl,⟨.inl rfl,hq 1⟩,λ_ _=>⟨⟨by decide,by decide⟩,2,rfl,⟨i.s,i.p,i.B,j,au⟩,rfl,rfl,rfl,⟨hR,by dsimp only;omega⟩,λ_ _=>⟨⟨⟨i.p,i.B.map qW,j⟩,au⟩,rfl,rfl,rfl,rfl,rfl,rfl,rfl,rfl,rfl,rfl,rfl,rfl,rfl,rfl,⟨hB.ps,hto⟩,λ_ _=>⟨⟨xX ⟨i.p,i.B.map qW,j⟩ 2,2⟩,rfl,rfl,⟨.inr rfl,hq 2⟩,λ_ _=>⟨?_,j+1,wjn (by omega),?_,rfl,by dsimp only;omega,by dsimp only;omega,rfl,by(repeat'(first|exact trivial|exact rfl|apply ao))⟩⟩⟩⟩⟩⟩⟩
  ·rw[y5c,y5t];omega
  ·rw[y6m,yCl i.p i.B hlt,y8f,y5l,y5p,y8t];dsimp only;rw[hat];rfl
 ·have hj:j<=i.p.count:=hj;rw[y5n (by omega)];exact⟨(),by(repeat'(first|exact trivial|exact rfl|apply ao))⟩
def zXo:lookOC.ok Tryz.prog 29:=okw mixed (gokc eF (gokc yOh (gokc bV (gokc yNy (gokc zSv (gokc yOc gok0)))))) 1 (λ_=>[]) (λi=>y0d i) [] Tryz.func29 yVy
def z7m:gchkC.ok Tryz.prog 40:=okw (V:=yZy) mixed (gokc zZy gok0) 0 (λ_=>[]) (λ_=>[]) [] Tryz.func40 λ(i:SbI) h=>⟨i,rfl,rfl,h,λ_ _=>⟨(),rfl,trivial⟩⟩
def zSb:glookC.ok Tryz.prog 51:=okw (V:=yVf) mixed gok0 0 (λ_=>[]) (λ_=>[]) [] Tryz.func51 λ(g:Gt) _=>⟨(),rfl,rfl,trivial⟩
def zZv:mlookC.ok Tryz.prog 52:=okw (V:=yXs) mixed gok0 0 (λ_=>[]) (λ_=>[]) [] Tryz.func52 λ(m:Mkt) _=>⟨(),by(repeat'(first|exact trivial|exact rfl|apply ao))⟩
def zZo {p:Prd} {B:List (List zH)} (h:BWf p B) (U:List Int) (W:List (Int×Int)) (s:Int) (b:List UInt8):BOk p (lI p B U W s b).B:=by
 rw[lI];split
 ·exact h.ok
 split
 ·exact h.ok
 rw[zXh];split
 ·exact h.ok
 split
 ·exact h.ok
 ·exact yTt h U _
def y2b {p:Prd} {v w:Vw} (hv:VwG p v) (hw:VwG p w):(jX 0 v w).length<=202000000:=by
 obtain⟨h1,h2,h3,h4⟩:=yYz hv hw;have:=yDh v w v.length (y5x _) (by omega);rw[y5n (y5x _),y5n (by omega)]at this;omega
def ved (i:EdI) (h:edC.cnd i):Ved i:=by
 obtain⟨o0,x,p,s,b⟩:=i;obtain⟨⟨hM,hB⟩,hb,⟨hs1,hs2⟩,⟨hq1,hq2⟩,hR⟩:(o0.Rep p x.B x.U/\BOk p x.B)/\b.length<=1048576/\(0<=s/\s<8)/\(0<=x.q/\x.q<=1000000000000000000)/\x.R.length<=1000000:=h;have hwf:=hM.s.wf hB;have hB2:BOk p (x.X p s b).B:=zZo hwf _ _ _ _;have hls:((lob s).toNat:Int)=aq.wrap s:=(zKw s).symm;unfold Ved zLi z5e z1m z3w l8 zAk;dsimp only;refine⟨trivial,trivial,[[lob s],b],?_,⟨by simp,by simp;omega,by simp⟩,λ_ _=>⟨trivial,trivial,by rw[y5c];omega,⟨⟨o0,x.W⟩,p,x.B,x.U,s,b,x.X p s b⟩,rfl,rfl,rfl,⟨⟨hM,hB⟩,by dsimp only;omega,rfl⟩,λo ho=> ?_⟩⟩
 ·show[rcE [lob s],rcE b]=_;rw[rcE,rcE,<- hls];rfl
 have hv:=zVy hwf;have hw:=zVy (ho.s.wf hB2);obtain⟨g1,g2,g3,g4⟩:=yYz hv hw;have hl:=y2b hv hw;have er:aa rcE (x.R++[fT s b])=aa rcE x.R++[[D.ro 1 (bE [[lob s],b].flatten)]]:=by
  rw[y5l];simp[rcE,fT]
 have eq1:x.q+((x.M p s b).length:Int)=ap.wrap (x.q+(aa xJ (wI x.q (x.M p s b))).length):=by
  have:(x.M p s b).length<=202000000:=hl;rw[y5c,nI,w64 (by omega)]
 refine⟨⟨⟨o,(x.X p s b).W⟩,rfl,rfl,trivial,λ_ _=>⟨by(repeat'(first|exact trivial|exact rfl|apply ao)),⟨o,rfl,rfl,rfl,rfl,rfl,rfl,rfl,rfl,rfl,rfl,rfl,rfl,rfl,trivial,λ_ _=>⟨by(repeat'(first|exact trivial|exact rfl|apply ao)),?_,by(repeat'(first|exact trivial|exact rfl|apply ao)),?_⟩⟩,by(repeat'(first|exact trivial|exact rfl|apply ao)),o,rfl,rfl,rfl,rfl,rfl,rfl,rfl,rfl,rfl,rfl,rfl,rfl,rfl,trivial,λ_ _=>⟨by(repeat'(first|exact trivial|exact rfl|apply ao)),?_⟩⟩⟩,trivial,by(repeat'(first|exact trivial|exact rfl|apply ao)),⟨o,(x.X p s b).W⟩,rfl,rfl,trivial,λ_ _=>⟨by(repeat'(first|exact trivial|exact rfl|apply ao)),o,rfl,rfl,rfl,rfl,rfl,rfl,rfl,rfl,rfl,rfl,rfl,rfl,rfl,trivial,λ_ _=>⟨by(repeat'(first|exact trivial|exact rfl|apply ao)),?_⟩⟩⟩
 all_goals exact⟨⟨o.s,p,(x.X p s b).B⟩,rfl,rfl,rfl,rfl,rfl,rfl,rfl,rfl,rfl,rfl,rfl,rfl,⟨ho.s,hB2⟩,λ_ _=>⟨⟨yX p x.B,yX p (x.X p s b).B,x.q⟩,rfl,rfl,rfl,⟨g1,⟨by dsimp only;omega,by dsimp only;omega⟩,g2,g3,g4⟩,λ_ _=>⟨o,rfl,rfl,rfl,rfl,rfl,rfl,rfl,rfl,rfl,eq1,rfl,rfl,rfl,rfl,rfl,rfl,rfl,rfl,rfl,rfl,rfl,rfl,rfl,rfl,rfl,rfl,er,rfl,rfl,rfl,ho⟩⟩⟩
def yQh:edC.ok Tryz.prog 44:=okw mixed (gokc z8t (gokc yKf (gokc zSb (gokc zZv (gokc zXo (gokc yFo gok0)))))) 0 (λ_=>[]) (λ_=>[]) [] Tryz.func44 ved
structure EoI where
 o:Mkt
 x:Es
 p:Prd
 d:Dk
 s:Int
 b:List UInt8
def zZz (p:Prd) (x:Es) (o:Mkt) (d:Dk):List AObj:=[enC (x.en p) 4 7,jnR 3 x.R.length,GtR ⟨o,x.W⟩,DkR d,rcR x.R,.fro 1 (iE p.months),.fro 1 (iE p.settle),zKm (yX p x.B)]
@[reducible] def EoI.ok (i:EoI):Prop:=(i.o.Rep i.p i.x.B i.x.U/\BOk i.p i.x.B)/\i.b.length<=254/\(-1<=i.s/\i.s<8)/\(0<=i.x.q/\i.x.q<=1000000000000000000)/\i.x.R.length<=1000000/\i.d.b.length+i.b.length+7<=1048576
def EoI.Y (i:EoI):Es:=i.x.ed i.p i.s i.b
def EoI.N (i:EoI):List z1c:=wI i.x.q (i.x.M i.p i.s i.b)
def EoI.O (i:EoI):List (Int×Rep):=(i.x.X i.p i.s i.b).O
def EoI.D (i:EoI):Dk:=⟨i.d.b++xG (fT i.s i.b),i.d.safe⟩
def edoC:Con where
 ι:=EoI
 pat:=λi=>[.nm 0 0,zA i.s,roV 1 (bE i.b)]
 pre:=λi=>zZz i.p i.x i.o i.d
 cnd:=λi=>i.ok
 alts:=λi=>[
  {o:=Mkt,res:=λ_=> .agg [.own 8,z1w],post:=λo=>zZz i.p i.x o i.d++[z4w [(i.s,⟨2,0,0,0,0,0,0,(zS i.s i.b).2⟩)]],rel:=λo=>(zS i.s i.b).2≠0/\o.Rep i.p i.x.B i.x.U},
  {o:=Mkt,res:=λ_=> .agg [.own 10,.own 11],post:=λo=>[enC (i.Y.en i.p) 8 9,jnR 3 i.Y.R.length,GtR ⟨o,i.Y.W⟩,DkR i.D,.gone,.fro 1 (iE i.p.months),.fro 1 (iE i.p.settle),.gone,rcR i.Y.R,zKm (yX i.p i.Y.B),z4w i.O,yBd i.N],rel:=λo=>(zS i.s i.b).2=0/\o.Rep i.p i.Y.B i.Y.U}]
def es0 (p:Prd):Es:=⟨af p.count [],[],[],0,[]⟩
def z6s (p:Prd) (x:Es) (r:List UInt8):Es:=x.ed p (r.headD 0).toNat r.tail
def x4 (p:Prd) (L:List (List UInt8)):Es:=L.foldl (z6s p) (es0 p)
def yFr (r:List UInt8):Prop:=r≠[]/\(zS (r.headD 0).toNat r.tail).2=0
structure EpI where
 p:Prd
 s:Nat
 L:List (List UInt8)
 t:List UInt8
def EpI.j (i:EpI):JoI:=⟨i.s,i.L,i.t⟩
@[reducible] def EpI.ok (i:EpI):Prop:=(i.p.check=0/\i.p.small)/\((ScI.mk i.L i.t).ok/\i.j.d.ok)/\(∀r∈i.L,yFr r)/\i.L.length<=100000
def enK (e:En):AObj:= .cells [sV e.p.code,.own 5,zA e.p.tick,zA e.p.low,zA e.p.high,zA e.p.wide,zA e.p.rule,zA e.p.top,zA e.p.least,zA e.p.part,.own 6,.nm 2 0,.nm 3 0,.own 7,zA e.q,.own 4] yLm
def eopC:Con where
 ι:=EpI
 pat:=λi=>[prdV i.p,.nm 0 0]
 pre:=λi=>[DkR i.j.d]
 cnd:=λi=>i.ok
 alts:=λi=>[{o:=Mkt,res:=λ_=> .tup [.nm 1 0,zA 0],post:=λo=>[DkR i.j.d',enK ((x4 i.p i.L).en i.p),jnR 0 i.L.length,GtR ⟨o,(x4 i.p i.L).W⟩,rcR (x4 i.p i.L).R,.fro 1 (iE i.p.months),.fro 1 (iE i.p.settle),zKm (yX i.p (x4 i.p i.L).B)],rel:=λo=>o.Rep i.p (x4 i.p i.L).B (x4 i.p i.L).U}]
structure EpJ where
 o:Mkt
 x:Es
 k:Nat
def y3f (i:EpI):List SAnn:=[{ι:=EpJ,slots:=λj=>[(6,.nm 2 0),(10,.nm 0 0),(48,.own 8),(50,zA j.k)],rows:=λj=>[enC (j.x.en i.p) 4 7,jnR 3 i.L.length,GtR ⟨j.o,j.x.W⟩,DkR i.j.d',rcR j.x.R,.fro 1 (iE i.p.months),.fro 1 (iE i.p.settle),zKm (yX i.p j.x.B),rcR i.L]}]
noncomputable def esnC:Con:=con1 En (λ_=>[.nm 0 0]) (λe=>[enC e 4 7,.gone,.gone,.gone,.gone,.gone,.gone,zKm e.v]) (λe=>zBh e.v) (λe=>roV 1 (bE (vF e.v e.q))) (λe=>[enC e 4 7,.gone,.gone,.gone,.gone,.gone,.gone,zKm e.v])
def zEy (a:EdI):Prop:=(a.o.Rep a.p a.x.B a.x.U/\BOk a.p a.x.B)/\a.b.length<=1048576/\(0<=a.s/\a.s<8)/\(0<=a.x.q/\a.x.q<=1000000000000000000)/\a.x.R.length<=1000000
def f7 (a:EoI):=(aa yG (yX a.p (a.x.X a.p a.s a.b).B))
def u9 (a:EoI):=(a.x.R++[fT a.s a.b])
def fM (a:EoI):=(↑(u9 a).length:Int)
def fU (a:EoI):=(↑(a.x.M a.p a.s a.b).length:Int)
def wV (a:EoI):=(aa yG (yX a.p a.x.B))
def y2a (i:EoI):Prop:=
 ∃(a:SbI),a.s=i.s/\bE a.b=bE i.b/\a.b.length<=1099511627776/\∀(b:Unit),True->cnd ((zS a.s a.b).snd !=0) (∃(c:GdI),c.s=i.s/\bE c.b=bE i.b/\GtR c.g=GtR (Gt.mk i.o i.x.W)/\(zLi c)/\∀(d:Mkt),d.Rep c.p c.X.B c.X.U->(∃(e:Mkt),True/\dh (sb i.p.code)/\dh i.p.tick/\dh i.p.low/\dh i.p.high/\dh i.p.wide/\dh i.p.rule/\dh i.p.top/\dh i.p.least/\dh i.p.part/\dh i.x.q/\dh ((↑i.x.R.length:Int))/\GtR (Gt.mk e i.x.W)=GtR (Gt.mk d c.X.W)/\dh (DkR i.d)/\dh (aa rcE i.x.R)/\dh (aj 1 (iE i.p.months))/\dh (aj 1 (iE i.p.settle))/\aj 10 (wV i)=zKm (yX i.p i.x.B)/\[k0 (i.s,Rep.mk 2 0 0 0 0 0 0 (zS i.s i.b).snd)]=aa k0 c.X.O/\(zS i.s i.b).snd≠0/\e.Rep i.p i.x.B i.x.U)\/∃(o_1:Mkt),dh (sb i.p.code)/\dh i.p.tick/\dh i.p.low/\dh i.p.high/\dh i.p.wide/\dh i.p.rule/\dh i.p.top/\dh i.p.least/\dh i.p.part/\i.x.q+(fU i)=i.x.q/\(fM i)=(↑i.x.R.length:Int)/\GtR (Gt.mk o_1 (i.x.X i.p i.s i.b).W)=GtR (Gt.mk d c.X.W)/\DkR i.D=DkR i.d/\dh (aj 1 (iE i.p.months))/\dh (aj 1 (iE i.p.settle))/\aa rcE (u9 i)=aa rcE i.x.R/\aj 10 (f7 i)=zKm (yX i.p i.x.B)/\aa k0 i.O=aa k0 c.X.O/\aa xJ i.N=[]/\(zS i.s i.b).snd=0/\o_1.Rep i.p (i.x.X i.p i.s i.b).B (i.x.X i.p i.s i.b).U) (True/\True/\∃(c:List (List UInt8)),aa rcE c=[[D.ro 1 [[D.v (.int .u8 (aq.wrap i.s))]]],[D.ro 1 (bE i.b)]]/\(1<=c.flatten.length/\c.flatten.length<=1099511627776/\c.length<=1000)/\∀(d:Unit),True->True/\∃(e:JaI),bE e.l=bE c.flatten/\e.n=(↑i.x.R.length:Int)/\DkR e.d=DkR i.d/\(e.l.length<=255/\e.d.b.length+e.l.length+(6:Nat)<=(1048576:Nat)/\0<=e.n/\e.n<=1048576)/\∀(f:Unit),True->∃(g:EdI),g.s=i.s/\bE g.b=bE i.b/\sb g.p.code=sb i.p.code/\g.p.tick=i.p.tick/\g.p.low=i.p.low/\g.p.high=i.p.high/\g.p.wide=i.p.wide/\g.p.rule=i.p.rule/\g.p.top=i.p.top/\g.p.least=i.p.least/\g.p.part=i.p.part/\g.x.q=i.x.q/\GtR g.g=GtR (Gt.mk i.o i.x.W)/\aa rcE g.x.R=aa rcE i.x.R/\aj 1 (iE g.p.months)=aj 1 (iE i.p.months)/\aj 1 (iE g.p.settle)=aj 1 (iE i.p.settle)/\aj 10 (aa yG (yX g.p g.x.B))=zKm (yX i.p i.x.B)/\(zEy g)/\∀(h:Mkt),h.Rep g.p (g.x.X g.p g.s g.b).B (g.x.X g.p g.s g.b).U->(∃(j:Mkt),False)\/∃(o_1:Mkt),sb i.p.code=sb g.p.code/\i.p.tick=g.p.tick/\i.p.low=g.p.low/\i.p.high=g.p.high/\i.p.wide=g.p.wide/\i.p.rule=g.p.rule/\i.p.top=g.p.top/\i.p.least=g.p.least/\i.p.part=g.p.part/\i.x.q+(fU i)=g.x.q+(↑(g.x.M g.p g.s g.b).length:Int)/\(fM i)=e.n+1/\GtR (Gt.mk o_1 (i.x.X i.p i.s i.b).W)=GtR (Gt.mk h (g.x.X g.p g.s g.b).W)/\DkR i.D=DkR (Dk.mk (e.d.b++xG e.l) e.d.safe)/\aj 1 (iE i.p.months)=aj 1 (iE g.p.months)/\aj 1 (iE i.p.settle)=aj 1 (iE g.p.settle)/\aa rcE (u9 i)=aa rcE (g.x.R++[fT g.s g.b])/\aj 10 (f7 i)=aj 10 (l8 g)/\aa k0 i.O=aa k0 g.O/\aa xJ i.N=aa xJ g.N/\(zS i.s i.b).snd=0/\o_1.Rep i.p (i.x.X i.p i.s i.b).B (i.x.X i.p i.s i.b).U)
def nK (a:EpI):Prop:=sb a.p.code=sb a.p.code/\True/\dh a.p.tick/\dh a.p.low/\dh a.p.high/\dh a.p.wide/\dh a.p.rule/\dh a.p.top/\dh a.p.least/\dh a.p.part/\True/\True
def zPm (a:JoI):Prop:=((∀(b:List UInt8),b∈a.L->b.length<=255)/\(sN a.t).snd.snd=10/\(fsB a.L).length+a.t.length<=1048576)/\a.s<=(fsB a.L++a.t).length/\(fsB a.L++a.t).length<=1048576
def h9 (a:EpI):=(aa yG (yX a.p (x4 a.p a.L).B))
def y0r (i:EpI):Prop:=
 ∃(a:Prd),sb a.code=sb i.p.code/\iE a.months=iE i.p.months/\a.tick=i.p.tick/\a.low=i.p.low/\a.high=i.p.high/\a.wide=i.p.wide/\a.rule=i.p.rule/\a.top=i.p.top/\a.least=i.p.least/\a.part=i.p.part/\iE a.settle=iE i.p.settle/\(z5 a)/\(∀(b:Unit),a.check=0->∃(c:JoI),DkR c.d=DkR i.j.d/\(zPm c)/\∀(d:Unit),True->∃(e:List Int),iE e=iE i.p.months/\e.length<=1000000/\∀(f:Unit),True->True/\∃(g:List Int),iE g=iE i.p.settle/\g.length<=1000000/\∀(h:Unit),True->∃(j:Gt),jA j.m=jA (Mkt.mk a (aV a) [])/\xM j.W=xM []/\True/\∀(k:Unit),True->(nK i)/\(nK i)/\∃(l:Mkt),sb l.p.code=sb j.m.p.code/\l.p.tick=j.m.p.tick/\l.p.low=j.m.p.low/\l.p.high=j.m.p.high/\l.p.wide=j.m.p.wide/\l.p.rule=j.m.p.rule/\l.p.top=j.m.p.top/\l.p.least=j.m.p.least/\l.p.part=j.m.p.part/\zD l.s=zD j.m.s/\zV l.used=zV j.m.used/\aj 1 (iE l.p.months)=aj 1 (iE j.m.p.months)/\aj 1 (iE l.p.settle)=aj 1 (iE j.m.p.settle)/\True/\∀(m:Unit),True->(nK i)/\(nK i)/\∃(n:LkI),sb n.p.code=sb i.p.code/\iE n.p.months=iE e/\n.p.tick=i.p.tick/\n.p.low=i.p.low/\n.p.high=i.p.high/\n.p.wide=i.p.wide/\n.p.rule=i.p.rule/\n.p.top=i.p.top/\n.p.least=i.p.least/\n.p.part=i.p.part/\iE n.p.settle=iE g/\zD n.s=zD l.s/\(n.s.Rep n.p n.B/\BOk n.p n.B)/\∀(p:Unit),True->(nK i)/\∃(q:EpJ),(↑q.k:Int)=0/\dh (sb i.p.code)/\dh i.p.tick/\dh i.p.low/\dh i.p.high/\dh i.p.wide/\dh i.p.rule/\dh i.p.top/\dh i.p.least/\dh i.p.part/\q.x.q=0/\(↑i.L.length:Int)=(↑c.L.length:Int)/\sb q.o.p.code=sb l.p.code/\q.o.p.tick=l.p.tick/\q.o.p.low=l.p.low/\q.o.p.high=l.p.high/\q.o.p.wide=l.p.wide/\q.o.p.rule=l.p.rule/\q.o.p.top=l.p.top/\q.o.p.least=l.p.least/\q.o.p.part=l.p.part/\zD q.o.s=zD n.s/\zV q.o.used=zV l.used/\aj 1 (iE q.o.p.months)=aj 1 (iE l.p.months)/\aj 1 (iE q.o.p.settle)=aj 1 (iE l.p.settle)/\xM q.x.W=xM j.W/\DkR i.j.d'=DkR c.d'/\aa rcE q.x.R=[]/\aj 1 (iE i.p.months)=aj 1 (iE e)/\aj 1 (iE i.p.settle)=aj 1 (iE g)/\aa yG (yX i.p q.x.B)=aa yG (yX n.p n.B)/\aa rcE i.L=aa rcE c.L/\∃(r:EpJ->Prop),∃(s:EpJ->Nat),r q/\∀(t:EpJ),r t->cnd (decide ((↑t.k:Int)<(↑(aa rcE c.L).length:Int))) ((0<=(↑t.k:Int)/\(↑t.k:Int)<(↑(aa rcE i.L).length:Int))/\∃(u:List (List D)),zE (aa rcE i.L) (↑t.k:Int).toNat 0 1=aw [D.ro 1 u]/\cnd ((↑u.length:Int)==0) (∃(v:Mkt),False) (((0:Int)<=(0:Int)/\0<(↑u.length:Int))/\∃(v:Int),zE u (av 0) 0 1=aw [D.v (.int .u8 v)]/\((0:Int)<=(1:Int)/\1<=(↑u.length:Int))/\∃(w:SbI),w.s=ap.wrap v/\bE w.b=ac (av 1) u/\w.b.length<=1099511627776/\∀(x:Unit),True->cnd ((zS w.s w.b).snd !=0) (∃(y:Mkt),False) (((0:Int)<=(0:Int)/\0<(↑u.length:Int))/\∃(y:Int),zE u (av 0) 0 1=aw [D.v (.int .u8 y)]/\((0:Int)<=(1:Int)/\1<=(↑u.length:Int))/\∃(z:EdI),z.s=ap.wrap y/\bE z.b=ac (av 1) u/\sb z.p.code=sb i.p.code/\z.p.tick=i.p.tick/\z.p.low=i.p.low/\z.p.high=i.p.high/\z.p.wide=i.p.wide/\z.p.rule=i.p.rule/\z.p.top=i.p.top/\z.p.least=i.p.least/\z.p.part=i.p.part/\z.x.q=t.x.q/\GtR z.g=GtR (Gt.mk t.o t.x.W)/\aa rcE z.x.R=aa rcE t.x.R/\aj 1 (iE z.p.months)=aj 1 (iE i.p.months)/\aj 1 (iE z.p.settle)=aj 1 (iE i.p.settle)/\aj 10 (aa yG (yX z.p z.x.B))=aj 10 (aa yG (yX i.p t.x.B))/\(zEy z)/\∀(a_1:Mkt),a_1.Rep z.p (z.x.X z.p z.s z.b).B (z.x.X z.p z.s z.b).U->∃(a_2:EpJ),(↑a_2.k:Int)=ap.wrap ((↑t.k:Int)+1)/\sb i.p.code=sb z.p.code/\i.p.tick=z.p.tick/\i.p.low=z.p.low/\i.p.high=z.p.high/\i.p.wide=z.p.wide/\i.p.rule=z.p.rule/\i.p.top=z.p.top/\i.p.least=z.p.least/\i.p.part=z.p.part/\a_2.x.q=z.x.q+(↑(z.x.M z.p z.s z.b).length:Int)/\dh ((↑i.L.length:Int))/\GtR (Gt.mk a_2.o a_2.x.W)=GtR (Gt.mk a_1 (z.x.X z.p z.s z.b).W)/\dh (DkR i.j.d')/\aa rcE a_2.x.R=aa rcE (z.x.R++[fT z.s z.b])/\aj 1 (iE i.p.months)=aj 1 (iE z.p.months)/\aj 1 (iE i.p.settle)=aj 1 (iE z.p.settle)/\aj 10 (aa yG (yX i.p a_2.x.B))=aj 10 (l8 z)/\dh (aa rcE i.L)/\r a_2/\s a_2<s t/\dh (aj 1 (iE l.p.months))/\dh (aj 1 (iE l.p.settle))/\dh (aj 1 (iE j.m.p.months))/\dh (aj 1 (iE j.m.p.settle))/\dh (aj 1 (iE g))/\dh (aj 1 (iE e))/\dh (ak [V.d (D.v (ax (sb i.p.code))),V.own 7,V.d (dI i.p.tick),V.d (dI i.p.low),V.d (dI i.p.high),V.d (dI i.p.wide),V.d (dI i.p.rule),V.d (dI i.p.top),V.d (dI i.p.least),V.d (dI i.p.part),V.own 8] 25)/\dh (aj 1 (iE i.p.settle))/\dh (aj 1 (iE i.p.months))))) (∃(u:Mkt),dh ((0:Int))/\dh (DkR i.j.d')/\dh (sb i.p.code)/\dh i.p.tick/\dh i.p.low/\dh i.p.high/\dh i.p.wide/\dh i.p.rule/\dh i.p.top/\dh i.p.least/\dh i.p.part/\(x4 i.p i.L).q=t.x.q/\dh ((↑i.L.length:Int))/\GtR (Gt.mk u (x4 i.p i.L).W)=GtR (Gt.mk t.o t.x.W)/\aa rcE (x4 i.p i.L).R=aa rcE t.x.R/\dh (aj 1 (iE i.p.months))/\dh (aj 1 (iE i.p.settle))/\aj 10 (h9 i)=aj 10 (aa yG (yX i.p t.x.B))/\u.Rep i.p (x4 i.p i.L).B (x4 i.p i.L).U))/\∀(b:Unit),a.check≠0->cnd (a.check !=0) (∃(c:Mkt),False) (∃(c:JoI),DkR c.d=DkR i.j.d/\(zPm c)/\∀(d:Unit),True->∃(e:List Int),iE e=iE i.p.months/\e.length<=1000000/\∀(f:Unit),True->True/\∃(g:List Int),iE g=iE i.p.settle/\g.length<=1000000/\∀(h:Unit),True->∃(j:Gt),False)
def y4m (e:En):Prop:=
 ∃(i:zQf),aa yG i.v=aa yG e.v/\i.seq=e.q/\(ae i.v<=1099511627776/\∀(b:Sd×Sd),b∈i.v->b.fst.levels.length<=1099511627776/\b.snd.levels.length<=1099511627776)/\∀(o:Unit),True->∃(o:Unit),bE (vF e.v e.q)=bE (vF i.v i.seq)/\dh (sb e.p.code)/\dh e.p.tick/\dh e.p.low/\dh e.p.high/\dh e.p.wide/\dh e.p.rule/\dh e.p.top/\dh e.p.least/\dh e.p.part/\e.q=e.q/\aj 10 (aa yG e.v)=zKm e.v/\True
def z4a {s:Int} {b:List UInt8} (h:(zS s b).2=0):0<=s/\s<8:=by
 rw[zS]at h;split at h
 ·cases h
 ·omega
def y2u (i:EoI) (h:edoC.cnd i):y2a i:=by
 obtain⟨o0,x,p,d,s,b⟩:=i;obtain⟨⟨hM,hB⟩,hb,⟨hs1,hs2⟩,⟨hq1,hq2⟩,hR,hd⟩:(o0.Rep p x.B x.U/\BOk p x.B)/\b.length<=254/\(-1<=s/\s<8)/\(0<=x.q/\x.q<=1000000000000000000)/\x.R.length<=1000000/\d.b.length+b.length+7<=1048576:=h;have hls:((lob s).toNat:Int)=aq.wrap s:=(zKw s).symm;unfold y2a l8 zLi wV fU fM u9 f7 zEy;dsimp only;refine⟨⟨s,b⟩,rfl,rfl,by dsimp only;omega,λ_ _=>Cv.cnd.mk (λe=> ?_) (λe=> ?_)⟩
 ·have e:(zS s b).2≠0:=by simpa using e
  exact⟨⟨⟨o0,x.W⟩,p,x.B,x.U,s,b,yBw x.B x.U x.W s 0 (zS s b).2⟩,rfl,rfl,rfl,⟨⟨hM,hB⟩,by dsimp only;omega,by dsimp only;rw[zSk,y5d e]⟩,λo ho=> .inl ⟨o,trivial,rfl,rfl,rfl,rfl,rfl,rfl,rfl,rfl,rfl,rfl,rfl,rfl,rfl,rfl,rfl,rfl,rfl,rfl,e,ho⟩⟩
 ·have e:(zS s b).2=0:=by simpa using e
  have hs:=z4a e;refine⟨trivial,trivial,[[lob s],b],?_,⟨by simp,by simp;omega,by simp⟩,λ_ _=>⟨trivial,⟨d,x.R.length,fT s b⟩,by simp[fT],rfl,rfl,⟨by simp[fT];omega,by simp[fT];omega,by dsimp only;omega,by dsimp only;omega⟩,λ_ _=>⟨⟨o0,x,p,s,b⟩,rfl,rfl,rfl,rfl,rfl,rfl,rfl,rfl,rfl,rfl,rfl,rfl,rfl,rfl,rfl,rfl,rfl,⟨⟨hM,hB⟩,by dsimp only;omega,hs,⟨hq1,hq2⟩,hR⟩,λo ho=> .inr ⟨o,rfl,rfl,rfl,rfl,rfl,rfl,rfl,rfl,rfl,rfl,by simp,rfl,rfl,rfl,rfl,rfl,rfl,rfl,rfl,e,ho⟩⟩⟩⟩;show[rcE [lob s],rcE b]=_;rw[rcE,rcE,<- hls];rfl
def edo_ok:edoC.ok Tryz.prog 12:=okw mixed (gokc z7m (gokc yKf (gokc z8t (gokc yLb (gokc yQh gok0))))) 0 (λ_=>[]) (λ_=>[]) [] Tryz.func12 y2u
def yZl {p:Prd} {L:List (List UInt8)} {k:Nat} {r:List UInt8} (h:L[k]? =aw r):x4 p (L.take (k+1))=z6s p (x4 p (L.take k)) r:=by
 rw[y6m,h,y8f,x4,y9k];rfl
def z7h {p:Prd} {x:Es} {o:Mkt} (hM:o.Rep p x.B x.U) (hB:BOk p x.B) (s:Int) (b:List UInt8) {o2:Mkt} (ho:o2.Rep p (x.X p s b).B (x.X p s b).U):
 BOk p (x.ed p s b).B/\x.q<=(x.ed p s b).q/\(x.ed p s b).q<=x.q+202000000/\(x.ed p s b).R.length=x.R.length+1:=by
 have hwf:=hM.s.wf hB;have hB2:BOk p (x.X p s b).B:=zZo hwf _ _ _ _;have:(x.M p s b).length<=202000000:=y2b (zVy hwf) (zVy (ho.s.wf hB2));refine⟨hB2,?_,?_,?_⟩
 ·show x.q<=x.q+((x.M p s b).length:Int);omega
 ·show x.q+((x.M p s b).length:Int)<=_;omega
 ·show(x.R++[fT s b]).length=_;rw[y5a];rfl
def y3p (i:EpI) (h:eopC.cnd i):y0r i:=by
 obtain⟨p,s,L,t⟩:=i;obtain⟨⟨hc,hsm⟩,⟨hs,hd⟩,hr,hl⟩:(p.check=0/\p.small)/\((ScI.mk L t).ok/\(JoI.mk s L t).d.ok)/\(∀r∈L,yFr r)/\L.length<=100000:=h;have hB0:BOk p (af p.count []):=BOk.new hc hsm;have hM0:=yOs p;have m6:=(kD hc).m6;have sl:=(kD hc).s1;have hml:(L.map rcE).length=L.length:=y5c _;unfold y0r h9 zPm nK l8 zEy z5 dI;dsimp only;refine⟨p,rfl,rfl,rfl,rfl,rfl,rfl,rfl,rfl,rfl,rfl,rfl,hsm,λ_ _=>⟨⟨s,L,t⟩,rfl,⟨hs,hd⟩,λ_ _=>⟨p.months,rfl,by omega,λ_ _=>⟨trivial,p.settle,rfl,by omega,λ_ _=>⟨⟨mk0 p,[]⟩,rfl,rfl,trivial,λ_ _=>⟨by(repeat'(first|exact trivial|exact rfl|apply ao)),by(repeat'(first|exact trivial|exact rfl|apply ao)),mk0 p,rfl,rfl,rfl,rfl,rfl,rfl,rfl,rfl,rfl,rfl,rfl,rfl,rfl,trivial,λ_ _=>⟨by(repeat'(first|exact trivial|exact rfl|apply ao)),by(repeat'(first|exact trivial|exact rfl|apply ao)),⟨(mk0 p).s,p,af p.count []⟩,rfl,rfl,rfl,rfl,rfl,rfl,rfl,rfl,rfl,rfl,rfl,rfl,⟨hM0.s,hB0⟩,λ_ _=>⟨by(repeat'(first|exact trivial|exact rfl|apply ao)),⟨mk0 p,es0 p,0⟩,rfl,rfl,rfl,rfl,rfl,rfl,rfl,rfl,rfl,rfl,rfl,rfl,rfl,rfl,rfl,rfl,rfl,rfl,rfl,rfl,rfl,rfl,rfl,rfl,rfl,rfl,rfl,rfl,rfl,rfl,rfl,rfl,λj=>(j.k<=L.length/\j.x=x4 p (L.take j.k))/\(j.o.Rep p j.x.B j.x.U/\BOk p j.x.B)/\(0<=j.x.q/\j.x.q<=202000000*(j.k:Int))/\j.x.R.length=j.k,λj=>L.length-j.k,⟨⟨y6i _,rfl⟩,⟨hM0,hB0⟩,⟨y8p _,y8p _⟩,rfl⟩,?_⟩⟩⟩⟩⟩⟩⟩,λ_ hne=>absurd hc hne⟩;rintro⟨o,x,k⟩ ⟨⟨hk,hx⟩,⟨hM,hB⟩,⟨hq1,hq2⟩,hR⟩;dsimp only at hk hx hM hB hq1 hq2 hR ⊢;refine zI (λhlt=> ?_) (λhlt=> ?_)
 ·obtain⟨r,hrk⟩:=yC (l:=L) (i:=k) (by omega);have hrm:=y5m hrk;obtain⟨hne,hrd⟩:=hr r hrm;have hr255:=hs.1 r hrm;obtain⟨c,b,rfl⟩:∃c b,r=c::b:=by
   cases r with
   |nil=>exact absurd rfl hne
   |cons c b=>exact⟨c,b,rfl⟩
  have hrd:(zS (c.toNat:Int) b).2=0:=hrd;have hc8:=z4a hrd;have wc:ap.wrap (c.toNat:Int)=c.toNat:=w64 (by omega);rw[y5g]at hr255;refine⟨⟨by omega,by omega⟩,bE (c::b),z3c hrk,Cv.cnd.mk (λe=>by have e:=beq_iff_eq.1 e;rw[y4,y5g]at e;omega) (λ_=>⟨⟨by decide,by rw[y4,y5g];omega⟩,c.toNat,dO rfl,⟨by decide,by rw[y4,y5g];omega⟩,⟨c.toNat,b⟩,wc.symm,rfl,by dsimp only;omega,λ_ _=>Cv.cnd.mk (λe=>by simp[hrd]at e) (λ_=>⟨⟨by decide,by rw[y4,y5g];omega⟩,c.toNat,dO rfl,⟨by decide,by rw[y4,y5g];omega⟩,⟨o,x,p,c.toNat,b⟩,wc.symm,rfl,rfl,rfl,rfl,rfl,rfl,rfl,rfl,rfl,rfl,rfl,rfl,rfl,rfl,rfl,rfl,⟨⟨hM,hB⟩,by dsimp only;omega,hc8,⟨hq1,by dsimp only;omega⟩,by dsimp only;omega⟩,λo2 ho=> ?_⟩)⟩)⟩;obtain⟨t1,t2,t3,t4⟩:=z7h hM hB (c.toNat:Int) b ho;exact⟨⟨o2,x.ed p c.toNat b,k+1⟩,wjn (by omega),rfl,rfl,rfl,rfl,rfl,rfl,rfl,rfl,rfl,rfl,rfl,rfl,rfl,rfl,rfl,rfl,rfl,rfl,⟨⟨by dsimp only;omega,by dsimp only;rw[yZl hrk,<- hx];rfl⟩,⟨ho,t1⟩,⟨by dsimp only;omega,by dsimp only;omega⟩,by dsimp only;omega⟩,by dsimp only;omega,by(repeat'(first|exact trivial|exact rfl|apply ao))⟩
 ·obtain rfl:k=L.length:=by omega
  rw[y7y]at hx;subst hx;exact⟨o,by repeat'(first|exact rfl|exact hM|apply ao)⟩
def eop_ok:eopC.ok Tryz.prog 18:=okw mixed (gokc yMh (gokc yWx (gokc yAp (gokc zYr (gokc zSb (gokc zZv (gokc zXo (gokc z7m (gokc yQh gok0))))))))) 0 (λ_=>[]) (λi=>y3f i) [] Tryz.func18 y3p
def esn_ok:esnC.ok Tryz.prog 10:=okw (V:=y4m) mixed (gokc yTb gok0) 0 (λ_=>[]) (λ_=>[]) [] Tryz.func10 λ(e:En) h=>⟨⟨e.v,e.q⟩,rfl,rfl,h,λ_ _=>⟨(),by(repeat'(first|exact trivial|exact rfl|apply ao))⟩⟩
@[reducible] def yDn:Nat:=39
structure SdJ where
 x:Es
 o:Mkt
 d:Dk
 O:List (Int×Rep)
 N:List z1c
def y4r (p:Prd) (j:SdJ):List AObj:=zZz p j.x j.o j.d++[.cells [.own 9,.own 10] yDn,z4w j.O,yBd j.N]
def doJ (p:Prd) (e a:Nat):SAnn:={ι:=SdJ,slots0:=λ_=>[(e,.nm 0 0)],rows0:=λj=>zZz p j.x j.o j.d,slots:=λj=>[(e,.nm 0 0),(a,.nm 8 0)],rows:=y4r p}
def y4l (p:Prd):List AObj:=[.cells [sV p.code,.own 9,zA p.tick,zA p.low,zA p.high,zA p.wide,zA p.rule,zA p.top,zA p.least,zA p.part,.own 10] 25,.fro 1 (iE p.months),.fro 1 (iE p.settle)]
def yLp {t:TmI} (h:0<=t.i/\t.i<=1000000):1<=(xB t).id/\(xB t).id<=1099511627776:=by
 have:0<=zF t.c.id 0 30/\zF t.c.id 0 30<=30:=by rw[zF];omega
 rw[xB];split
 ·dsimp only;omega
 ·simp only[y3];omega
def yDl {x:Prd} {c:Cmd} {k:Nat} (hk:k<=1000000):(xB ⟨kprod x,c,k⟩).right=0:=by
 have:=z4v x c k (xB ⟨kprod x,c,k⟩).id (yLp (by dsimp only;omega));exact this
def z9n {c:Cmd} (h:c.right=0) (hl:c.label=[]):c.enc.length<=100:=by
 have e:c.enc=lob c.kind::(le c.id 8++c.tail):=by rw[Cmd.enc,y5b (by simp[h])]
 have ht:c.tail.length<=60:=by
  rw[Cmd.tail];split
  ·simp only[y5g,y5a,xW,lH,hl,y5t,y6v];omega
  split
  ·rw[xW];omega
  split
  ·rw[y5a,xW,xW];omega
  ·exact y6i _
 rw[e,y5g,y5a,xW];omega
def yHn (p:Prd) (B:List (List zH)) (U:List Int) (c:Cmd):∃r l,(doF p B U c).R=r::l/\(r.kind=2->(doF p B U c).B=B):=by
 rw[doF];split
 ·exact⟨_,_,rfl,λ_=>rfl⟩
 split
 ·rw[nB]
  iterate 5 (split;·exact⟨_,_,rfl,λ_=>rfl⟩)
  obtain⟨r,l,h1,h2,_⟩:=(z0g p B U c).2;exact⟨r,l,h1,λe=>by omega⟩
 split
 ·exact⟨_,_,rfl,λ_=>rfl⟩
 split
 ·rw[fZ];split
  ·exact⟨_,_,rfl,λ_=>rfl⟩
  split
  ·rw[bI];exact⟨_,_,rfl,λe=>by simp at e⟩
  split
  ·exact⟨_,_,rfl,λ_=>rfl⟩
  rw[uN];exact⟨_,_,rfl,λe=>by simp at e⟩
 split
 ·rw[uN];exact⟨_,_,rfl,λe=>by simp at e⟩
 ·rw[bI];exact⟨_,_,rfl,λe=>by simp at e⟩
def z3j (p:Prd) (B:List (List zH)) (U:List Int) (W:List (Int×Int)) (s:Int) (b:List UInt8):∃o l,(lI p B U W s b).O=o::l/\(o.2.kind=2->(lI p B U W s b).B=B):=by
 rw[lI];split
 ·exact⟨_,_,rfl,λ_=>rfl⟩
 split
 ·exact⟨_,_,rfl,λ_=>rfl⟩
 rw[zXh];split
 ·exact⟨_,_,rfl,λ_=>rfl⟩
 split
 ·exact⟨_,_,rfl,λ_=>rfl⟩
 obtain⟨r,l,h1,h2⟩:=yHn p B U (xH b).1;dsimp only;rw[h1];dsimp only[lJ];refine⟨_,_,rfl,λe=>h2 ?_⟩;exact e
def yHf (x:Es) (p:Prd) (s:Int) (b:List UInt8):∃o l,(x.X p s b).O=o::l/\(o.2.kind=2->x.M p s b=[]):=by
 obtain⟨o,l,h1,h2⟩:=z3j p x.B x.U x.W s b;refine⟨o,l,h1,λe=> ?_⟩;rw[Es.M,Es.X,h2 e];exact z5z 0 _
structure AnOk (p:Prd) (x:Es) (d:Dk) (j:SdJ):Prop where
 r:j.o.Rep p j.x.B j.x.U
 ok:BOk p j.x.B
 q1:x.q<=j.x.q
 q2:j.x.q<=x.q+202000000
 n:j.x.R.length<=x.R.length+1
 d:j.d.b.length<=d.b.length+107
 m:∃M:List VM,j.N=wI x.q M/\j.x.q=x.q+(M.length:Int)
 t:∃o l,j.O=o::l/\(o.2.kind=2->j.N=[])
def AnOk.bad {p:Prd} {x:Es} {d:Dk} {o:Mkt} (h1:o.Rep p x.B x.U) (h2:BOk p x.B) (s w:Int):AnOk p x d ⟨x,o,d,[(s,⟨2,0,0,0,0,0,0,w⟩)],[]⟩:=
 ⟨h1,h2,y8p _,by dsimp only;omega,by dsimp only;omega,by dsimp only;omega,⟨[],rfl,by simp⟩,⟨_,_,rfl,λ_=>rfl⟩⟩
def AnOk.good {p:Prd} {x:Es} {d:Dk} {o o2:Mkt} (h1:o.Rep p x.B x.U) (h2:BOk p x.B) {s:Int} {b:List UInt8} (hb:b.length<=100) (h3:o2.Rep p (x.X p s b).B (x.X p s b).U):
 AnOk p x d ⟨x.ed p s b,o2,⟨d.b++xG (fT s b),d.safe⟩,(x.X p s b).O,wI x.q (x.M p s b)⟩:=by
 obtain⟨t1,t2,t3,t4⟩:=z7h h1 h2 s b h3;refine⟨h3,t1,t2,t3,by dsimp only;omega,?_,⟨_,rfl,rfl⟩,?_⟩
 ·dsimp only;rw[y5a,gM,fT,y5g];omega
 ·obtain⟨o,l,e1,e2⟩:=yHf x p s b;exact⟨o,l,e1,λe=>by rw[e2 e];rfl⟩
def gJ (p:Prd) (e:Nat):SAnn:={ι:=SdJ,slots0:=λ_=>[(e,.nm 0 0)],rows0:=λj=>zZz p j.x j.o j.d,slots:=λ_=>[(e,.nm 0 0)],rows:=λj=>zZz p j.x j.o j.d}
structure AnE (p:Prd) (x:Es) (d:Dk) (s:Int) (b:List UInt8) (j:SdJ):Prop where
 a:AnOk p x d j
 c:((zS s b).2≠0/\j.x=x/\j.d=d/\j.O=[(s,⟨2,0,0,0,0,0,0,(zS s b).2⟩)]/\j.N=[])\/((zS s b).2=0/\j.x=x.ed p s b/\j.d=⟨d.b++xG (fT s b),d.safe⟩/\j.O=(x.X p s b).O/\j.N=wI x.q (x.M p s b))
def AnE.bad {p:Prd} {x:Es} {d:Dk} {o:Mkt} (h1:o.Rep p x.B x.U) (h2:BOk p x.B) {s:Int} {b:List UInt8} (h:(zS s b).2≠0):AnE p x d s b ⟨x,o,d,[(s,⟨2,0,0,0,0,0,0,(zS s b).2⟩)],[]⟩:=⟨AnOk.bad h1 h2 s _,.inl ⟨h,rfl,rfl,rfl,rfl⟩⟩
def AnE.good {p:Prd} {x:Es} {d:Dk} {o o2:Mkt} (h1:o.Rep p x.B x.U) (h2:BOk p x.B) {s:Int} {b:List UInt8} (hb:b.length<=100) (h:(zS s b).2=0) (h3:o2.Rep p (x.X p s b).B (x.X p s b).U):
 AnE p x d s b ⟨x.ed p s b,o2,⟨d.b++xG (fT s b),d.safe⟩,(x.X p s b).O,wI x.q (x.M p s b)⟩:=⟨AnOk.good h1 h2 hb h3,.inr ⟨h,rfl,rfl,rfl,rfl⟩⟩
def AnE.safe {p:Prd} {x:Es} {d:Dk} {s:Int} {b:List UInt8} {j:SdJ} (h:AnE p x d s b j):j.d.safe=d.safe/\d.b.length<=j.d.b.length:=by
 rcases h.c with⟨a0,a1,a2,a3,a4⟩|⟨a0,a1,a2,a3,a4⟩
 ·rw[a2];exact⟨rfl,y5x _⟩
 ·rw[a2];exact⟨rfl,by dsimp only;rw[y5a];omega⟩
def AnE.recs {p:Prd} {x:Es} {d:Dk} {s:Int} {b:List UInt8} {j:SdJ} (h:AnE p x d s b j) (hb:b.length<=100) (hR:∀r∈x.R,r.length<=101):∀r∈j.x.R,r.length<=101:=by
 rcases h.c with⟨a0,a1,a2,a3,a4⟩|⟨a0,a1,a2,a3,a4⟩
 ·rw[a1];exact hR
 ·rw[a1];intro r hr;have hr:r∈x.R++[fT s b]:=hr;rw[y6f,y6r]at hr;rcases hr with hr|rfl
  ·exact hR r hr
  ·have:(fT s b).length=b.length+1:=rfl;omega
structure EagI (p:Prd) (x:Es) (d:Dk):Prop where
 e:x=x4 p x.R
 d:d.b=fsB x.R
 r:∀r∈x.R,yFr r
def yNw (p:Prd) (x:Es) {s:Int} (b:List UInt8) (h:0<=s/\s<8):z6s p x (fT s b)=x.ed p s b:=by
 have hl:=zJq (n:=s) (by omega);show x.ed p ((lob s).toNat:Int) b=_;rw[hl]
def EagI.step {p:Prd} {x:Es} {d:Dk} {s:Int} {b:List UInt8} {j:SdJ} (h:EagI p x d) (hj:AnE p x d s b j):EagI p j.x j.d:=by
 rcases hj.c with⟨a0,a1,a2,a3,a4⟩|⟨a0,a1,a2,a3,a4⟩
 ·rw[a1,a2];exact h
 ·have hs:=z4a a0;have hl:=zJq (n:=s) (by omega);rw[a1,a2];refine⟨?_,?_,λr hr=> ?_⟩
  ·show x.ed p s b=x4 p (x.R++[fT s b]);rw[x4,y9k];show _=z6s p (x4 p x.R) (fT s b);rw[<- h.e,yNw p x b hs]
  ·show d.b++xG (fT s b)=fsB (x.R++[fT s b]);rw[zVl,h.d,hJ];show _=fsB x.R++(xG (fT s b)++[]);rw[y6a]
  ·have hr:r∈x.R++[fT s b]:=hr;rw[y6f,y6r]at hr;rcases hr with hr|rfl
   ·exact h.r r hr
   ·refine⟨List.cons_ne_nil _ _,?_⟩;show(zS ((lob s).toNat:Int) b).2=0;rw[hl];exact a0
def wtextC:Con:=con1 TxB (λi=>[.nm 0 0,sV i.s]) (λi=>[Wr i.l]) (λi=>i.l.length+300<=1099511627776/\i.s.length<=255) (λ_=>mG) (λi=>[Wr (i.l++lH i.s)])
def pencC:Con:=con1 Cmd (λc=>[zGd c]) (λ_=>[]) (λc=>c.label=[]/\c.right=0) (λc=> .tup [roV 1 (bE c.enc),zA 0]) (λ_=>[])
structure WhI where
 l:List Int
 k:Nat
def zGn (l:List Int) (k:Nat):Int:=match l[k]? with
 |some s=>zF s 0 3
 |none=>0
def whoC:Con:=con1 WhI (λi=>[roV 1 (iE i.l),zA i.k]) (λ_=>[]) (λi=>(∀s∈i.l,i64r s)/\i.k<=1000000) (λi=>zA (zGn i.l i.k)) (λ_=>[])
def tbyC:Con:=con1 TmI (λt=>[prdV t.p,zGd t.c,zA t.i]) (λ_=>[]) (λt=>(∃x,t.p=kprod x)/\t.c.raw/\0<=t.i/\t.i<=1000000) (λt=>roV 1 (bE (xB t).enc)) (λ_=>[])
def freC:Con where
 ι:=Prd
 pat:=λp=>[prdV p]
 pre:=λ_=>[]
 cnd:=λp=>p.check=0/\p.small
 alts:=λp=>[{o:=Mkt,res:=λ_=> .tup [.nm 0 0,.nm 3 0,yP au],post:=λo=>zZz p (es0 p) o ⟨[],0⟩,rel:=λo=>o.Rep p (es0 p).B (es0 p).U}]
def awC:Con:=con1 Prd (λ_=>[]) (λ_=>[]) (λp=>p=dA 2) (λ_=>yP au) (λ_=>[])
def yWw:List (Nat×SAnn):=[(4,{ι:=Unit,slots:=λ_=>[],rows:=λ_=>[],opn:=[0]})]
def awJ (p:Prd):List (Nat×SAnn):=[(20,doJ p 2 4),(24,doJ p 2 5),(28,doJ p 2 6)]
def yJs {l:List UInt8} (h:l.length<=255) {m:Nat} (hm:m<(xG l).length):(sN ((xG l).take m)).2.2=10:=by
 have hl:=gM l;have htl:((xG l).take m).length=m:=by rw[y5t];omega
 by_cases h2:m<2
 ·rw[sN,y5d (by omega)]
 obtain⟨k,rfl⟩:∃k,m=k+2:=⟨m-2,by omega⟩
 have e:(xG l).take (k+2)=lob (l.length:Int)::UInt8.ofNat (255-l.length)::(l++le (cX l) 4).take k:=rfl;have h0:(((xG l).take (k+2)).getD 0 0).toNat=l.length:=by
  have:=zJq (n:=(l.length:Int)) (by omega);rw[e];show(lob (l.length:Int)).toNat=l.length;omega
 have h1:(((xG l).take (k+2)).getD 1 0).toNat=255-l.length:=by
  rw[e];show(UInt8.ofNat (255-l.length)).toNat=_;have h3:255-l.length<256:=by omega
  exact UInt8.toNat_ofNat_of_lt' (by simpa using h3)
 unfold sN;rw[htl,h0,h1,y5b (by omega),y5b (by omega),y5d (by omega)]
def ySz (R:List (List UInt8)) {i j:Nat} (h:i<=j):(fsB (R.take i)).length<=(fsB (R.take j)).length:=by
 have e:R.take j=R.take i++(R.take j).drop i:=by
  have:=y7g i (R.take j);rw[xBi,y8u h]at this;exact this.symm
 rw[e,zVl,y5a];omega
def yDu:∀(R:List (List UInt8)) (_:∀r∈R,r.length<=255) (m:Nat) (_:m<=(fsB R).length),∃j t,j<=R.length/\(fsB R).take m=fsB (R.take j)++t/\(sN t).2.2=10/\∀i≤R.length,(fsB (R.take i)).length<=m->i<=j
 |[],_,m,hm=>⟨0,[],y5x _,by simp[fsB],rfl,λi hi _=>hi⟩
 |r::R,hR,m,hm=>by
  have hr:r.length<=255:=hR r (y5h ..);rw[hJ,y5a]at hm;by_cases hc:m<(xG r).length
  ·refine⟨0,(xG r).take m,y6i _,?_,yJs hr hc,λi hi h=> ?_⟩
   ·rw[hJ,y5y (by omega)];rfl
   ·cases i with
    |zero=>exact y5x _
    |succ i=>
     rw[y6l,hJ,y5a]at h;omega
  ·obtain⟨j,t,h1,h2,h3,h4⟩:=yDu R (λr hr=>hR r (y5j _ hr)) (m-(xG r).length) (by omega);refine⟨j+1,t,Nat.succ_le_succ h1,?_,h3,λi hi h=> ?_⟩
   ·rw[hJ,y6l,hJ,y5i,<- h2,List.take_append];rw[y5n (by omega)]
   ·cases i with
    |zero=>exact y6i _
    |succ i=>
     rw[y6l,hJ,y5a]at h;exact Nat.succ_le_succ (h4 i (Nat.le_of_succ_le_succ hi) (by omega))
def z2q {s:Int} (h0:0<=s/\s<8) {c:Cmd} (h:c.right=0):(zS s c.enc).2=0:=by
 rw[zS,y5b (by omega),yMu h]
noncomputable def z7a (p:Prd) (x:Es):List UInt8:=vF (yX p x.B) x.q
noncomputable def snB (p:Prd) (R:List (List UInt8)):List (List UInt8):=(List.range (R.length+1)).map λj=>z7a p (x4 p (R.take j))
def z8e (p:Prd) (R:List (List UInt8)):(snB p R).length=R.length+1:=by rw[snB,y5c,ag]
def yXi (p:Prd) {R:List (List UInt8)} {j:Nat} (h:j<=R.length):(snB p R)[j]? =aw (z7a p (x4 p (R.take j))):=by
 rw[snB,y6q,y9c (by omega)];rfl
def yEb (p:Prd) (R:List (List UInt8)) (r:List UInt8):snB p (R++[r])=snB p R++[z7a p (x4 p (R++[r]))]:=by
 rw[snB,y5a,y6z,y9l,y5l,xBg];congr 1
 ·refine y6k λj hj=> ?_
  have hj:=y8b.1 hj;rw[y5y (by omega)]
 ·rw[y5n (by rw[y5a];exact y5x _)]
def kA1:Cmd:=⟨1,1,3,2,5,4,0,1,[]⟩
def kA2:Cmd:=⟨1,2,1,2,500,6,0,1,[]⟩
def kA3:Cmd:=⟨1,3,0,1,505,9,0,1,[]⟩
def yQb:kA1.right=0:=by decide+kernel
def yPy:kA2.right=0:=by decide+kernel
def yQj:kA3.right=0:=by decide+kernel
def aw1:Es:=(es0 (dA 2)).ed (dA 2) 0 kA1.enc
def aw2:Es:=aw1.ed (dA 2) 1 kA2.enc
def y4s:((es0 (dA 2)).X (dA 2) 0 kA1.enc).O.length=1:=by decide+kernel
def y2s:(aw1.X (dA 2) 1 kA2.enc).O.length=1:=by decide+kernel
def y2z:(aw2.X (dA 2) 2 kA3.enc).O.length=6/\((aw2.X (dA 2) 2 kA3.enc).O.getD 5 (0,⟨0,0,0,0,0,0,0,0⟩)).2=⟨3,3,0,1,505,4,5,0⟩/\(aw2.M (dA 2) 2 kA3.enc).length≠0:=by decide+kernel
structure TpI where
 x:Prd
 p:Prd
 l:List Cmd
 ss:List Int
@[reducible] def TpI.ok (i:TpI):Prop:=i.p=kprod i.x/\i.x.raw/\(∀c∈i.l,c.raw)/\(∀s∈i.ss,i64r s)/\i.l.length<=9223372036854775807/\i.ss.length<=9223372036854775807
structure TcI where
 x:Prd
 p:Prd
 l:List Cmd
 ss:List Int
 sy:Int
 kp:Int
@[reducible] def TcI.ok (i:TcI):Prop:=(TpI.mk i.x i.p i.l i.ss).ok/\i64r i.sy/\i64r i.kp
def tcC:Con:=con1 TcI (λi=>[prdV i.x,roV 9 (i.l.map cmdE),roV 1 (iE i.ss),zA i.sy,zA i.kp]) (λ_=>[]) (λi=>i.ok) (λ_=>yP au) (λ_=>[])
def zVf (b:List UInt8):List D:=[.v (.string (sb b))]
structure TcJ where
 x:Es
 o:Mkt
 d:Dk
 f:Nat
 k:Nat
noncomputable def tcA (i:TcI):List SAnn:=[{ι:=TcJ,slots:=λj=>[(11,.nm 8 0),(12,.nm 0 0),(13,.nm 3 0),(15,.own 11),(16,zA j.f),(17,zA j.k)],rows:=λj=>zZz i.p j.x j.o j.d++y4l i.p++[.own 9 1 ((snB i.p j.x.R).map zVf)]}]
def tcJ (i:TcI):List (Nat×SAnn):=[(36,bj 44),(44,gJ i.p 12)]
end Sx
