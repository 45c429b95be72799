/- Texts of ours. No condition. -/
import Derived.Test.YtaafldgiafcgfaaGreatD12
set_option linter.all false
open List renaming map->aa,take->ab,length->ac,drop->ae,replicate->af
open Sx.AObj renaming fro->ag,cells->aj,own->ak
open Bool renaming false->am,true->ao
open Go.IntKind renaming i64->ap,u8->aq
open Int renaming toNat->ar
open Option renaming some->au
open Go.Value renaming string->av
namespace Sx
set_option maxRecDepth 100000
open Go Cv Go.Proofs
def zFr (a:Nat) (b:Nat) (c:BsI) (d:Nat->Prop) (e:Nat->Nat):Prop:=(↑a:Int)=ap.wrap ((↑b:Int)+1)/\da ((zU c.l c.s).fst.price)/\da ((zU c.l c.s).fst.qty)/\da ((zU c.l c.s).fst.a.inst)/\da ((zU c.l c.s).fst.a.side)/\da ((zU c.l c.s).fst.b.inst)/\da ((zU c.l c.s).fst.b.side)/\d a/\e a<e b/\True
def qB (a:Nat) (b:BsI):=(gZ (ab a b.l) (zU b.l b.s).fst)
def yNz (i:BsI):Prop:=
 ∃(a:BsI),aa zI a.l=aa zI i.l/\a.s=i.s/\(g9 a)/\∀(b:Unit),True->cnd (!(zU a.l a.s).snd) (∃(c:Unit),(x5 i.l i.s).fst.price=0/\(x5 i.l i.s).fst.qty=0/\(x5 i.l i.s).fst.count=0/\(x5 i.l i.s).snd=am/\True) (∃(c:Nat),(qB c i).fst=(zU a.l a.s).fst.qty/\(qB c i).snd=0/\(↑c:Int)=0/\(zU i.l i.s).fst.price=(zU a.l a.s).fst.price/\(zU i.l i.s).fst.qty=(zU a.l a.s).fst.qty/\(zU i.l i.s).fst.a.inst=(zU a.l a.s).fst.a.inst/\(zU i.l i.s).fst.a.side=(zU a.l a.s).fst.a.side/\(zU i.l i.s).fst.b.inst=(zU a.l a.s).fst.b.inst/\(zU i.l i.s).fst.b.side=(zU a.l a.s).fst.b.side/\∃(d:Nat->Prop),∃(e:Nat->Nat),d c/\∀(f:Nat),d f->cnd (decide ((↑f:Int)<(vA i))) ((0<=(↑f:Int)/\(↑f:Int)<(vA i))/\∃(g:Int),∃(h:Int),∃(j:Int),∃(k:Int),∃(l:Int),∃(m:Int),zE (aa zI i.l) (↑f:Int).toNat 0 6=au [dI g,dI h,dI j,dI k,dI l,dI m]/\cnd (g==(zU i.l i.s).fst.price) (∃(n:Nat),((qB n i).fst=if h>(qB f i).fst then h else(qB f i).fst)/\(qB n i).snd=ap.wrap ((qB f i).snd+1)/\zFr n f i d e) (∃(n:Nat),(qB n i).fst=(qB f i).fst/\(qB n i).snd=(qB f i).snd/\zFr n f i d e)) (∃(g:Unit),(x5 i.l i.s).fst.price=(zU i.l i.s).fst.price/\(x5 i.l i.s).fst.qty=(qB f i).fst/\(x5 i.l i.s).fst.count=(qB f i).snd/\(x5 i.l i.s).snd=ao/\True))
def yBr (i:DtI):Prop:=
 True/\((aa xI i.d.out).length+1)*(56:Nat)<=(140737488355328:Nat)/\∃(a:Unit),i.d.seq+(↑(1:Nat):Int)=ap.wrap (i.d.seq+1)/\aa xI (i.d.out++vC i.d.seq [i.m])=aa xI i.d.out++[[dI (ap.wrap (i.d.seq+1)),dI (↑i.m.inst:Int),dI i.m.side,dI i.m.l.price,dI i.m.l.qty,dI i.m.l.count,D.v (.bool i.m.imp)]]/\True
def qS (a:DsI) (b:DsJ):=(a.d.out++vC a.d.seq b.M)
def nF (a:DsI):Prop:=aj [V.own 4,V.d (dI a.b.imp.price),V.d (dI a.b.imp.qty),V.d (dI a.b.imp.count),V.d (D.v (.bool a.b.has))] 129=aj [V.own 4,V.d (dI a.b.imp.price),V.d (dI a.b.imp.qty),V.d (dI a.b.imp.count),V.d (D.v (.bool a.b.has))] 129/\da (ag 3 (aa lvE a.b.levels))/\da (aj [V.own 2,V.d (dI a.a.imp.price),V.d (dI a.a.imp.qty),V.d (dI a.a.imp.count),V.d (D.v (.bool a.a.has))] 129)/\da (ag 3 (aa lvE a.a.levels))
def zFh (a:DsI) (b:DsJ):Prop:=aj [V.d (dI (a.d.seq+(↑b.M.length:Int))),V.own 7] (230:TypeId)=aj [V.d (dI (a.d.seq+(↑b.M.length:Int))),V.own 7] (230:TypeId)/\da (ak zZc 7 (aa xI (qS a b)))/\nF a
def mH (a:Bool->Prop) (b:Bool) (c:DsI) (d:DsJ):Prop:=a b/\zFh c d
def zFu (a:DsI) (b:Int) (c:Int) (d:Bool->Prop) (e:DsJ):Prop:=∃(f:I3),f.side=a.s/\f.x=b/\f.y=c/\True/\∀(g:Unit),True->∃(h:Bool),h=cL f.side f.x f.y/\mH d h a e
def eK (a:Bool->Prop) (b:DsI) (c:DsJ):Prop:=∃(d:Bool),d=ao/\mH a d b c
def zFd (a:Lv->Prop) (b:Lv) (c:DsI) (d:DsJ):Prop:=a b/\zFh c d
def zEp (a:DsJ->Prop) (b:DsJ) (c:DsJ->Nat) (d:DsJ) (e:DsI):Prop:=a b/\c b<c d/\nF e
def zEz (a:DsI) (b:DsJ) (c:DtI) (d:DsJ->Prop) (e:DsJ->Nat) (f:DsJ):Prop:=a.d.seq+(↑b.M.length:Int)=c.d.seq+(↑(1:Nat):Int)/\aa xI (qS a b)=aa xI (c.d.out++vC c.d.seq [c.m])/\zEp d b e f a
def zGp (a:Dfr->Prop) (b:Dfr) (c:DsI):Prop:=a b/\nF c
def aN (a:DtI):Prop:=(-4611686018427387904)<=a.d.seq/\a.d.seq+(↑(1:Nat):Int)<=4611686018427387904/\a.d.out.length+(1:Nat)<=(1000000000:Nat)
def fX (a:DsJ):=(↑(aa lvE a.y).length:Int)
def fA (a:DsJ):Prop:=(0:Int)<=(0:Int)/\0<(fX a)
def uQ (a:DsJ):=(↑(aa lvE a.x).length:Int)
def bM (a:DsJ):Prop:=(0:Int)<=(0:Int)/\0<(uQ a)
def fL (a:DsI):=(a.d.out++vC a.d.seq (wK a.n a.s a.a a.b))
def fU (a:DsI):=(↑(wK a.n a.s a.a a.b).length:Int)
def yBy (i:DsI):Prop:=
 ∃(a:DsJ),aa lvE a.x=aa lvE i.a.levels/\aa lvE a.y=aa lvE i.b.levels/\i.d.seq+(↑a.M.length:Int)=i.d.seq/\aa xI (qS i a)=aa xI i.d.out/\∃(b:DsJ->Prop),∃(c:DsJ->Nat),b a/\∀(d:DsJ),b d->cnd (decide (ap.wrap ((uQ d)+(fX d))>0)) (∃(e:Bool),∃(f:Bool->Prop),cnd ((fX d)==0) (eK f i d) (cnd (decide ((uQ d)>0)) ((bM d)/\∃(g:Int),zE (aa lvE d.x) (ar 0) 0 1=au [dI g]/\(fA d)/\∃(h:Int),zE (aa lvE d.y) (ar 0) 0 1=au [dI h]/\zFu i g h f d) (∃(g:Bool),g=am/\mH f g i d))/\∀(g:Bool),f g->cnd g ((bM d)/\∃(h:Int),zE (aa lvE d.x) (ar 0) 0 1=au [dI h]/\∃(j:DtI),(↑j.m.inst:Int)=(↑i.n:Int)/\j.m.side=i.s/\j.m.l.price=h/\j.m.l.qty=0/\j.m.l.count=0/\j.m.imp=am/\j.d.seq=i.d.seq+(↑d.M.length:Int)/\aa xI j.d.out=aa xI (qS i d)/\(aN j)/\∀(k:Unit),True->((0:Int)<=(1:Int)/\1<=(uQ d))/\∃(l:DsJ),aa lvE l.x=ae (ar 1) (aa lvE d.x)/\aa lvE l.y=aa lvE d.y/\zEz i l j b c d) (∃(h:Bool),∃(j:Bool->Prop),cnd ((uQ d)==0) (eK j i d) ((fA d)/\∃(k:Int),zE (aa lvE d.y) (ar 0) 0 1=au [dI k]/\(bM d)/\∃(l:Int),zE (aa lvE d.x) (ar 0) 0 1=au [dI l]/\zFu i k l j d)/\∀(k:Bool),j k->cnd k ((fA d)/\∃(l:Int),∃(m:Int),∃(n:Int),zE (aa lvE d.y) (ar 0) 0 3=au [dI l,dI m,dI n]/\∃(p:DtI),(↑p.m.inst:Int)=(↑i.n:Int)/\p.m.side=i.s/\p.m.l.price=l/\p.m.l.qty=m/\p.m.l.count=n/\p.m.imp=am/\p.d.seq=i.d.seq+(↑d.M.length:Int)/\aa xI p.d.out=aa xI (qS i d)/\(aN p)/\∀(q:Unit),True->((0:Int)<=(1:Int)/\1<=(fX d))/\∃(r:DsJ),aa lvE r.x=aa lvE d.x/\aa lvE r.y=ae (ar 1) (aa lvE d.y)/\zEz i r p b c d) (∃(l:Dfr),l.seq=i.d.seq+(↑d.M.length:Int)/\aa xI l.out=aa xI (qS i d)/\∃(m:Dfr->Prop),(∃(n:Bool),∃(p:Bool->Prop),((bM d)/\∃(q:Int),∃(r:Int),∃(s:Int),zE (aa lvE d.x) (ar 0) 0 3=au [dI q,dI r,dI s]/\(fA d)/\∃(t:Int),∃(u:Int),∃(v:Int),zE (aa lvE d.y) (ar 0) 0 3=au [dI t,dI u,dI v]/\∃(w:Bool),w=!(q==t && (r==u && (s==v && ao)))/\p w/\da (aj [V.d (dI l.seq),V.own 9] (230:TypeId))/\da (ak zZc 7 (aa xI l.out))/\nF i)/\∀(q:Bool),p q->cnd q ((fA d)/\∃(r:Int),∃(s:Int),∃(t:Int),zE (aa lvE d.y) (ar 0) 0 3=au [dI r,dI s,dI t]/\∃(u:DtI),(↑u.m.inst:Int)=(↑i.n:Int)/\u.m.side=i.s/\u.m.l.price=r/\u.m.l.qty=s/\u.m.l.count=t/\u.m.imp=am/\u.d.seq=l.seq/\aa xI u.d.out=aa xI l.out/\(aN u)/\∀(v:Unit),True->∃(w:Dfr),w.seq=u.d.seq+(↑(1:Nat):Int)/\aa xI w.out=aa xI (u.d.out++vC u.d.seq [u.m])/\zGp m w i) (∃(r:Dfr),r.seq=l.seq/\aa xI r.out=aa xI l.out/\zGp m r i))/\∀(n:Dfr),m n->((0:Int)<=(1:Int)/\1<=(uQ d))/\((0:Int)<=(1:Int)/\1<=(fX d))/\∃(p:DsJ),aa lvE p.x=ae (ar 1) (aa lvE d.x)/\aa lvE p.y=ae (ar 1) (aa lvE d.y)/\i.d.seq+(↑p.M.length:Int)=n.seq/\aa xI (qS i p)=aa xI n.out/\zEp b p c d i))) (∃(e:Bool),∃(f:Bool->Prop),cnd (!(i.a.imp.price==i.b.imp.price && (i.a.imp.qty==i.b.imp.qty && (i.a.imp.count==i.b.imp.count && ao)))) (eK f i d) (∃(g:Bool),g=!i.a.has==i.b.has/\mH f g i d)/\∀(g:Bool),f g->cnd g (∃(h:Lv),h.price=i.b.imp.price/\h.qty=i.b.imp.qty/\h.count=i.b.imp.count/\∃(j:Lv->Prop),cnd (!i.b.has) (∃(k:Lv),k.price=0/\k.qty=0/\k.count=0/\zFd j k i d) (∃(k:Lv),k.price=h.price/\k.qty=h.qty/\k.count=h.count/\zFd j k i d)/\∀(k:Lv),j k->∃(l:DtI),(↑l.m.inst:Int)=(↑i.n:Int)/\l.m.side=i.s/\l.m.l.price=k.price/\l.m.l.qty=k.qty/\l.m.l.count=k.count/\l.m.imp=ao/\l.d.seq=i.d.seq+(↑d.M.length:Int)/\aa xI l.d.out=aa xI (qS i d)/\(aN l)/\∀(m:Unit),True->∃(n:Unit),i.d.seq+(fU i)=l.d.seq+(↑(1:Nat):Int)/\aa xI (fL i)=aa xI (l.d.out++vC l.d.seq [l.m])/\True) (∃(h:Unit),i.d.seq+(fU i)=i.d.seq+(↑d.M.length:Int)/\aa xI (fL i)=aa xI (qS i d)/\True))
def zGv (a:DsI):Prop:=(-4611686018427387904)<=a.d.seq/\a.d.seq+(↑(a.a.levels.length+a.b.levels.length+1):Int)<=4611686018427387904/\a.d.out.length+(a.a.levels.length+a.b.levels.length+1)<=1000000000
def mV (a:DvI) (b:Nat):=([]++vC a.seq (jV 0 (ab b a.v) (ab b a.w)))
def lP (a:Nat) (b:DvI):=(↑(jV 0 (ab a b.v) (ab a b.w)).length:Int)
def mF (a:DvI):=(↑(aa yF a.v).length:Int)
def yMe (i:DvI):Prop:=
 cnd ((mF i) !=(↑(aa yF i.w).length:Int)) (∃(a:Unit),aa xI (vC i.seq (jV 0 i.v i.w))=[]/\True) (∃(a:Nat),(↑a:Int)=0/\i.seq+(lP a i)=i.seq/\aa xI (mV i a)=[]/\∃(b:Nat->Prop),∃(c:Nat->Nat),b a/\∀(d:Nat),b d->cnd (decide ((↑d:Int)<(mF i))) (((0:Int)<=(0:Int)/\0<(↑(2:Nat):Int))/\∃(e:Int),zE [[dI 1],[dI 2]] (ar 0) 0 1=au [dI e]/\(0<=(↑d:Int)/\(↑d:Int)<(mF i))/\∃(f:List (List D)),∃(g:Int),∃(h:Int),∃(j:Int),∃(k:Bool),zE (aa yF i.v) (↑d:Int).toNat 0 5=au [D.ro 3 f,dI g,dI h,dI j,D.v (.bool k)]/\(0<=(↑d:Int)/\(↑d:Int)<(↑(aa yF i.w).length:Int))/\∃(l:List (List D)),∃(m:Int),∃(n:Int),∃(p:Int),∃(q:Bool),zE (aa yF i.w) (↑d:Int).toNat 0 5=au [D.ro 3 l,dI m,dI n,dI p,D.v (.bool q)]/\∃(r:DsI),(↑r.n:Int)=(↑d:Int)/\r.s=e/\aa lvE r.a.levels=f/\r.a.imp.price=g/\r.a.imp.qty=h/\r.a.imp.count=j/\r.a.has=k/\aa lvE r.b.levels=l/\r.b.imp.price=m/\r.b.imp.qty=n/\r.b.imp.count=p/\r.b.has=q/\r.d.seq=i.seq+(lP d i)/\aa xI r.d.out=aa xI (mV i d)/\(zGv r)/\∀(s:Unit),True->(gA)/\∃(t:Int),zE [[dI 1],[dI 2]] Vtopst340.toNat 0 1=au [dI t]/\(0<=(↑d:Int)/\(↑d:Int)<(mF i))/\∃(u:List (List D)),∃(v:Int),∃(w:Int),∃(x:Int),∃(y:Bool),zE (aa yF i.v) (↑d:Int).toNat 5 5=au [D.ro 3 u,dI v,dI w,dI x,D.v (.bool y)]/\(0<=(↑d:Int)/\(↑d:Int)<(↑(aa yF i.w).length:Int))/\∃(z:List (List D)),∃(a_1:Int),∃(a_2:Int),∃(a_3:Int),∃(a_4:Bool),zE (aa yF i.w) (↑d:Int).toNat 5 5=au [D.ro 3 z,dI a_1,dI a_2,dI a_3,D.v (.bool a_4)]/\∃(a_5:DsI),(↑a_5.n:Int)=(↑d:Int)/\a_5.s=t/\aa lvE a_5.a.levels=u/\a_5.a.imp.price=v/\a_5.a.imp.qty=w/\a_5.a.imp.count=x/\a_5.a.has=y/\aa lvE a_5.b.levels=z/\a_5.b.imp.price=a_1/\a_5.b.imp.qty=a_2/\a_5.b.imp.count=a_3/\a_5.b.has=a_4/\a_5.d.seq=r.d.seq+(fU r)/\aa xI a_5.d.out=aa xI (fL r)/\(zGv a_5)/\∀(a_6:Unit),True->∃(a_7:Nat),(↑a_7:Int)=ap.wrap ((↑d:Int)+1)/\i.seq+(lP a_7 i)=a_5.d.seq+(fU a_5)/\aa xI (mV i a_7)=aa xI (fL a_5)/\b a_7/\c a_7<c d/\da (aj [V.own 2] 71)/\da (ag 10 (aa yF i.w))/\da (aj [V.own 0] 71)/\da (ag 10 (aa yF i.v))) (∃(e:Unit),aa xI (vC i.seq (jV 0 i.v i.w))=aa xI (mV i d)/\True))
open Classical
def zKj {l:List Quote} {k:Nat} {q:Quote} (b:Quote) (h:l[k]? =au q):gZ (l.take (k+1)) b=if q.price=b.price then(if q.qty>(gZ (l.take k) b).1 then q.qty else(gZ (l.take k) b).1,(gZ (l.take k) b).2+1)else gZ (l.take k) b:=by
 rw[gZ,y2e,h,y3z,y5q,y5d,List.foldl_nil];rfl
def zXf (b:Quote) (l:List Quote):∀k,k<=l.length->0<=(gZ (l.take k) b).2/\(gZ (l.take k) b).2<=k
 |0,_=>⟨by rw[y5w];exact y4s 0,by rw[y5w];exact y4s 0⟩
 |k+1,h=>by
  obtain⟨q,hq⟩:=yE (l:=l) (i:=k) oM;have:=zXf b l k oM;rw[zKj b hq];split
  ·dsimp only;constructor<;>omega
  ·constructor<;>omega
def yXr (i:BsI) (h:showC.cnd i):yNz i:=by
 obtain⟨hs,hl⟩:(i.s=1\/i.s=2)/\i.l.length<=1000000:=h;have hml:(i.l.map zI).length=i.l.length:=y0z _;unfold yNz qB zFr g9 vA dI;rw[hml];refine⟨i,rfl,rfl,⟨hs,hl⟩,λ_ _=>Cv.cnd.mk (λc=> ?_) (λc=> ?_)⟩
 ·have e:x5 i.l i.s=(⟨0,0,0⟩,am):=by rw[x5,y0y (by simpa using c)]
  rw[e];exact⟨(),k0q⟩
 have e:x5 i.l i.s=(⟨(zU i.l i.s).1.price,(gZ i.l (zU i.l i.s).1).1,(gZ i.l (zU i.l i.s).1).2⟩,ao):=by rw[x5,y1a (by simpa using c)]
 rw[e];generalize (zU i.l i.s).1=b;refine⟨0,rF8 ⟨rfl,λk=>k<=i.l.length,λk=>i.l.length-k,y2a _,λk hk=>zH (λhlt=> ?_) (λhlt=> ?_)⟩⟩
 ·obtain⟨q,hq⟩:=yE (l:=i.l) (i:=k) oM;have st:=zKj b hq;have bd:=zXf b i.l k hk;have hk:k<=i.l.length:=hk;refine⟨⟨oM,oM⟩,q.price,q.qty,q.a.inst,q.a.side,q.b.inst,q.b.side,elA hq (by simp[zI]) rfl,Cv.cnd.mk (λe=>⟨k+1,?_⟩) (λe=>⟨k+1,?_⟩)⟩
  ·rw[st,y1a (by simpa using e)];exact⟨rfl,by dsimp only;rw[w64 (by omega)],wjn oM,rF5 ⟨rfl,Z9,Z9,trivial⟩⟩
  ·rw[st,y0y (by simpa using e)];exact⟨rfl,rfl,wjn oM,rF5 ⟨rfl,Z9,Z9,trivial⟩⟩
 ·have hk:k<=i.l.length:=hk;obtain rfl:k=i.l.length:=by omega
  rw[y3w];exact⟨(),k0q⟩
def yLq:showC.ok Tryz.prog 80:=okw mixed (gokc zWp gok0) 0 (λ_=>[]) (λi=>ySr i) [] Tryz.func80 yXr
def zGz (p:Prd) (B:List (List zG)):(yU p B).length=p.count:=by rw[yU,y0z,List.length_range]
def z7x (p:Prd) (B:List (List zG)) {j:Nat} (h:j<p.count):(yU p B)[j]? =au (zCx p B j 1,zCx p B j 2):=by
 rw[yU,y2n,y5f h];rfl
def z9x (a b:Lv):(a.price==b.price && (a.qty==b.qty && (a.count==b.count && ao)))=decide (a=b):=by
 rw[y6q,decide_eq_true_iff];obtain⟨p,q,c⟩:=a;obtain⟨p2,q2,c2⟩:=b;simp
def yJx {v:Vw} {k:Nat} {b:Sd×Sd} (h:v[k]? =au b):zE (v.map yF) k 0 10=au [D.ro 3 (b.1.levels.map lvE),.v (.int .i64 b.1.imp.price),.v (.int .i64 b.1.imp.qty),.v (.int .i64 b.1.imp.count),.v (.bool b.1.has),.ro 3 (b.2.levels.map lvE),.v (.int .i64 b.2.imp.price),.v (.int .i64 b.2.imp.qty),.v (.int .i64 b.2.imp.count),.v (.bool b.2.has)]/\
 zE (v.map yF) k 0 5=au [D.ro 3 (b.1.levels.map lvE),.v (.int .i64 b.1.imp.price),.v (.int .i64 b.1.imp.qty),.v (.int .i64 b.1.imp.count),.v (.bool b.1.has)]/\
 zE (v.map yF) k 5 5=au [D.ro 3 (b.2.levels.map lvE),.v (.int .i64 b.2.imp.price),.v (.int .i64 b.2.imp.qty),.v (.int .i64 b.2.imp.count),.v (.bool b.2.has)]:=
 ⟨elA h (by simp[yF]) rfl,elA h (by simp[yF]) rfl,elA h (by simp[yF]) rfl⟩
def zMe (q:Int):∀(A B:List VM),vC q (A++B)=vC q A++vC (q+A.length) B
 |[],B=>by simp[vC]
 |a::A,B=>by
  rw[y2p,vC,vC,zMe,y1d,y2p];congr 3;omega
def zJm (d:Dfr) (A B:List VM):(d.add A).add B=d.add (A++B):=by
 rw[Dfr.add,Dfr.add,Dfr.add,zMe,y0x,y1e];congr 1;dsimp only;omega
def yPa (i:DtI) (h:dtellC.cnd i):yBr i:=by
 obtain⟨h1,h2,h3⟩:i.d.ok 1:=h;unfold yBr dI;have e:ap.wrap (i.d.seq+1)=i.d.seq+1:=w64 oM;rw[e];exact⟨trivial,by rw[y0z];omega,(),rfl,by rw[y1i];rfl,trivial⟩
def yBi:dtellC.ok Tryz.prog 170:=okw mixed gok0 0 (λ_=>[]) (λ_=>[]) [] Tryz.func170 yPa
def mT {s:Int}:∀(k:Nat) (X Y:List Lv),(vW s k X Y).length<=k
 |0,X,Y=>by rw[vW];exact y1u 0
 |k+1,[],[]=>by rw[vW];exact y2a _
 |k+1,x::X,[]=>by rw[vW,y1d];have:=mT (s:=s) k X [];omega
 |k+1,[],y::Y=>by rw[vW,y1d];have:=mT (s:=s) k [] Y;omega
 |k+1,x::X,y::Y=>by
  have h1:=mT (s:=s) k X (y::Y);have h2:=mT (s:=s) k (x::X) Y;have h3:=mT (s:=s) k X Y;rw[vW];split
  ·rw[y1d];omega
  split
  ·rw[y1d];omega
  rw[y0x];split
  ·simp only[y2r];omega
  ·simp only[y2z];omega
def z0j (n:Nat) (s:Int) (a b:Sd):(wK n s a b).length<=a.levels.length+b.levels.length+1:=by
 have:=mT (s:=s) (a.levels.length+b.levels.length) a.levels b.levels;rw[wK,y0x,y0z];split
 ·rw[y2z];omega
 ·simp only[y2r];omega
def zRv:∀(n j:Nat) {v w:Vw} {a b:Sd×Sd},v[j]? =au a->w[j]? =au b->jV n (v.take (j+1)) (w.take (j+1))=jV n (v.take j) (w.take j)++(wK (n+j) 1 a.1 b.1++wK (n+j) 2 a.2 b.2)
 |n,0,x::v,y::w,a,b,h1,h2=>by
  obtain rfl:x=a:=by simpa using h1
  obtain rfl:y=b:=by simpa using h2
  simp[jV]
 |n,j+1,x::v,y::w,a,b,h1,h2=>by
  have:=zRv (n+1) j (v:=v) (w:=w) (a:=a) (b:=b) (by simpa using h1) (by simpa using h2);rw[y2j,y2j,y2j,y2j,jV,jV,this,y1e,y1e,y1e,y4m n 1 j,Nat.add_comm 1 j]
 |_,0,[],_,_,_,h1,_=>by simp at h1
 |_,j+1,[],_,_,_,h1,_=>by simp at h1
 |_,0,_::_,[],_,_,_,h2=>by simp at h2
 |_,j+1,_::_,[],_,_,_,h2=>by simp at h2
def tV {v:Vw} {j:Nat} {a:Sd×Sd} (h:v[j]? =au a):Vw.levs (v.take (j+1))=Vw.levs (v.take j)+(a.1.levels.length+a.2.levels.length):=by
 rw[Vw.levs,Vw.levs,y2e,h,y3z,y1i,y6t];simp
def z4w (v:Vw) (j:Nat):Vw.levs (v.take j)<=Vw.levs v:=by
 conv=>rhs;rw[<- y3s j v]
 rw[Vw.levs,Vw.levs,y1i,y6t];omega
def yDq (v w:Vw):∀j,j<=v.length->j<=w.length->(jV 0 (v.take j) (w.take j)).length<=Vw.levs (v.take j)+Vw.levs (w.take j)+2*j
 |0,_,_=>by rw[y5w,jV];exact y2a _;simp
 |j+1,h1,h2=>by
  obtain⟨a,ha⟩:=yE (l:=v) (i:=j) oM;obtain⟨b,hb⟩:=yE (l:=w) (i:=j) oM;have:=yDq v w j oM oM;have s1:=z0j (0+j) 1 a.1 b.1;have s2:=z0j (0+j) 2 a.2 b.2;rw[zRv 0 j ha hb,tV ha,tV hb,y0x,y0x];omega
def tO (q:Int):∀M:List VM,(vC q M).length=M.length
 |[]=>rfl
 |m::M=>by rw[vC,y1d,tO,y1d]
def tl1 (q:Int) (M:List VM) (m:VM):q+((M++[m]).length:Nat)=q+(M.length:Nat)+((1:Nat):Int):=by
 rw[y0x,y2z];omega
def tl2 (o:List zTf) (q:Int) (M:List VM) (m:VM):(o++vC q (M++[m])).map xI=((o++vC q M)++vC (q+(M.length:Nat)) [m]).map xI:=by rw[zMe,y1e]
def lvx (x:Lv) (X:List Lv):zE ((x::X).map lvE) 0 0 1=au [D.v (.int .i64 x.price)]/\zE ((x::X).map lvE) 0 0 3=au [D.v (.int .i64 x.price),.v (.int .i64 x.qty),.v (.int .i64 x.count)]:=⟨rfl,rfl⟩
def yEp (s:Int) (k:Nat):vW s k [] []=[]:=by cases k<;>rw[vW]
def yPg (i:DsI) (h:dsideC.cnd i):yBy i:=by
 obtain⟨d,n,s,⟨al,ai,ah⟩,⟨bl,bi,bh⟩⟩:=i;obtain⟨h1,h2,h3⟩:Dfr.ok d (al.length+bl.length+1):=h;unfold yBy zGp zEz zEp zFd eK zFu mH zFh nF qS fU fL bM uQ fA fX aN dI;refine⟨⟨al,bl,[]⟩,rfl,rfl,by simp,by simp[vC],λj=>∃k,j.x.length+j.y.length<=k/\(vW s (al.length+bl.length) al bl).map (λl=>(⟨n,s,l,am⟩:VM))=j.M++(vW s k j.x j.y).map (λl=>(⟨n,s,l,am⟩:VM))/\k+j.M.length<=al.length+bl.length,λj=>j.x.length+j.y.length,⟨al.length+bl.length,y1u _,rfl,y1u _⟩,?_⟩;rintro⟨x,y,M⟩ ⟨k,hk,hM,hl⟩;dsimp only at hk hM hl ⊢;have hx:(x.map lvE).length=x.length:=y0z _;have hy:(y.map lvE).length=y.length:=y0z _;have ok1:Dfr.ok ⟨d.seq+(M.length:Nat),d.out++vC d.seq M⟩ 1:=⟨Z9,Z9,by dsimp only;rw[y0x,tO];omega⟩
 rw[hx,hy,w64 (by omega)];refine zH (λc=> ?_) (λc=> ?_)
 ·obtain⟨k',rfl⟩:∃k',k=k'+1:=⟨k-1,oM⟩
  rcases x with _|⟨a,X⟩
  ·rcases y with _|⟨b,Y⟩
   ·exact absurd c (by simp)
   refine⟨am,λt=>t=am,Cv.cnd.mk (λe=> ?_) (λ_=>Cv.cnd.mk (λe=>absurd e (by simp)) (λ_=>⟨am,rfl,rfl,k0q⟩)),?_⟩
   ·exfalso;simp at e;omega
   rintro _ rfl;refine Cv.cnd.mk (λc=>absurd c Z8) (λ_=>⟨am,λt=>t=ao,Cv.cnd.mk (λ_=>⟨ao,rfl,rfl,k0q⟩) (λe=>absurd e (by simp)),?_⟩);rintro _ rfl;refine Cv.cnd.mk (λ_=> ?_) (λc=>absurd c Z8);rw[y1d]at hk;refine⟨⟨Z8,by rw[y1d];omega⟩,b.price,b.qty,b.count,(lvx b Y).2,⟨_,⟨n,s,b,am⟩⟩,rfl,rfl,rfl,rfl,rfl,rfl,rfl,rfl,ok1,λ_ _=>⟨⟨Z8,by rw[y1d];omega⟩,⟨[],Y,M++[⟨n,s,b,am⟩]⟩,rfl,rfl,tl1 _ _ _,tl2 _ _ _ _,⟨k',Z9,?_,by dsimp only;rw[y0x,y2z];omega⟩,by dsimp only;rw[y1d];omega,k0q⟩⟩;rw[hM,vW,y1m,y1e];rfl
  rcases y with _|⟨b,Y⟩
  ·refine⟨am,λt=>t=ao,Cv.cnd.mk (λ_=>⟨ao,rfl,rfl,k0q⟩) (λe=>absurd e (by simp)),?_⟩;rintro _ rfl;refine Cv.cnd.mk (λ_=> ?_) (λc=>absurd c Z8);rw[y1d]at hk;refine⟨⟨Z8,by rw[y1d];omega⟩,a.price,(lvx a X).1,⟨_,⟨n,s,⟨a.price,0,0⟩,am⟩⟩,rfl,rfl,rfl,rfl,rfl,rfl,rfl,rfl,ok1,λ_ _=>⟨⟨Z8,by rw[y1d];omega⟩,⟨X,[],M++[⟨n,s,⟨a.price,0,0⟩,am⟩]⟩,rfl,rfl,tl1 _ _ _,tl2 _ _ _ _,⟨k',by dsimp only;simp only[y2r]at hk ⊢;omega,?_,by dsimp only;rw[y0x,y2z];omega⟩,by dsimp only;rw[y1d];omega,k0q⟩⟩;rw[hM,vW,y1m,y1e];rfl
  rw[y1d,y1d]at hk;have la:(0:Int)<=0/\(0:Int)<((a::X).length:Nat):=⟨Z8,by rw[y1d];omega⟩
  have lb:(0:Int)<=0/\(0:Int)<((b::Y).length:Nat):=⟨Z8,by rw[y1d];omega⟩
  have la1:(0:Int)<=1/\(1:Int)<=((a::X).length:Nat):=⟨Z8,by rw[y1d];omega⟩
  have lb1:(0:Int)<=1/\(1:Int)<=((b::Y).length:Nat):=⟨Z8,by rw[y1d];omega⟩
  refine⟨am,λt=>t=btr s a.price b.price,Cv.cnd.mk (λe=> ?_) (λ_=>Cv.cnd.mk (λ_=>⟨la,a.price,(lvx a X).1,lb,b.price,(lvx b Y).1,⟨s,a.price,b.price⟩,rfl,rfl,rfl,trivial,λ_ _=>⟨_,rfl,rfl,k0q⟩⟩) (λe=> ?_)),?_⟩
  ·exfalso;simp at e;omega
  ·exfalso;simp at e
  rintro _ rfl;refine Cv.cnd.mk (λc1=> ?_) (λc1=> ?_)
  ·refine⟨la,a.price,(lvx a X).1,⟨_,⟨n,s,⟨a.price,0,0⟩,am⟩⟩,rfl,rfl,rfl,rfl,rfl,rfl,rfl,rfl,ok1,λ_ _=>⟨la1,⟨X,b::Y,M++[⟨n,s,⟨a.price,0,0⟩,am⟩]⟩,rfl,rfl,tl1 _ _ _,tl2 _ _ _ _,⟨k',by dsimp only;rw[y1d];omega,?_,by dsimp only;rw[y0x,y2z];omega⟩,by dsimp only;rw[y1d,y1d];omega,k0q⟩⟩;rw[hM,vW,y1a c1,y1m,y1e];rfl
  have c1:¬btr s a.price b.price=ao:=by simp[c1]
  refine⟨am,λt=>t=btr s b.price a.price,Cv.cnd.mk (λe=> ?_) (λ_=>⟨lb,b.price,(lvx b Y).1,la,a.price,(lvx a X).1,⟨s,b.price,a.price⟩,rfl,rfl,rfl,trivial,λ_ _=>⟨_,rfl,rfl,k0q⟩⟩),?_⟩
  ·exfalso;simp at e;omega
  rintro _ rfl;refine Cv.cnd.mk (λc2=> ?_) (λc2=> ?_)
  ·refine⟨lb,b.price,b.qty,b.count,(lvx b Y).2,⟨_,⟨n,s,b,am⟩⟩,rfl,rfl,rfl,rfl,rfl,rfl,rfl,rfl,ok1,λ_ _=>⟨lb1,⟨a::X,Y,M++[⟨n,s,b,am⟩]⟩,rfl,rfl,tl1 _ _ _,tl2 _ _ _ _,⟨k',by dsimp only;rw[y1d];omega,?_,by dsimp only;rw[y0x,y2z];omega⟩,by dsimp only;rw[y1d,y1d];omega,k0q⟩⟩;rw[hM,vW,y0y c1,y1a c2,y1m,y1e];rfl
  have c2:¬btr s b.price a.price=ao:=by simp[c2]
  by_cases hab:a=b
  ·refine⟨⟨_,_⟩,rfl,rfl,λD=>D=⟨d.seq+(M.length:Nat),d.out++vC d.seq M⟩,⟨am,λt=>t=am,⟨la,a.price,a.qty,a.count,(lvx a X).2,lb,b.price,b.qty,b.count,(lvx b Y).2,_,rfl,by rw[z9x,y1v hab];rfl,k0q⟩,?_⟩,?_⟩
   ·rintro _ rfl;exact Cv.cnd.mk (λc=>absurd c Z8) (λ_=>⟨_,rfl,rfl,rfl,k0q⟩)
   rintro _ rfl;refine⟨la1,lb1,⟨X,Y,M⟩,rF3 ⟨rfl,⟨k',Z9,?_,Z9⟩,by dsimp only;rw[y1d,y1d];omega,k0q⟩⟩;rw[hM,vW,y0y c1,y0y c2,y1a hab];rfl
  ·refine⟨⟨_,_⟩,rfl,rfl,λD=>D=Dfr.add ⟨d.seq+(M.length:Nat),d.out++vC d.seq M⟩ [⟨n,s,b,am⟩],⟨am,λt=>t=ao,⟨la,a.price,a.qty,a.count,(lvx a X).2,lb,b.price,b.qty,b.count,(lvx b Y).2,_,rfl,by rw[z9x,y1s hab];rfl,k0q⟩,?_⟩,?_⟩
   ·rintro _ rfl;exact Cv.cnd.mk (λ_=>⟨lb,b.price,b.qty,b.count,(lvx b Y).2,⟨_,⟨n,s,b,am⟩⟩,rfl,rfl,rfl,rfl,rfl,rfl,rfl,rfl,ok1,λ_ _=>⟨_,rfl,rfl,rfl,k0q⟩⟩) (λc=>absurd c Z8)
   rintro _ rfl;refine⟨la1,lb1,⟨X,Y,M++[⟨n,s,b,am⟩]⟩,rfl,rfl,tl1 _ _ _,tl2 _ _ _ _,⟨k',Z9,?_,by dsimp only;rw[y0x,y2z];omega⟩,by dsimp only;rw[y1d,y1d];omega,k0q⟩;rw[hM,vW,y0y c1,y0y c2,y0y hab,y1i,y1e];rfl
 obtain rfl:x=[]:=y1z oM;obtain rfl:y=[]:=y1z oM;rw[yEp,y4q,y1t]at hM;rw[z9x];refine⟨am,λt=>t=yJv ⟨al,ai,ah⟩ ⟨bl,bi,bh⟩,Cv.cnd.mk (λe=>⟨ao,rfl,?_,k0q⟩) (λe=>⟨_,rfl,?_,k0q⟩),?_⟩
 ·have e:ai≠bi:=by simpa using e
  rw[yJv];simp[e]
 ·have e:ai=bi:=by simpa using e
  rw[yJv,e];cases ah<;>cases bh<;>simp
 rintro _ rfl;refine Cv.cnd.mk (λe=>⟨bi,rfl,rfl,rfl,λl=>l=z9f ⟨bl,bi,bh⟩,Cv.cnd.mk (λe2=>⟨lv0,rfl,rfl,rfl,?_,k0q⟩) (λe2=>⟨bi,rfl,rfl,rfl,?_,k0q⟩),?_⟩) (λe=> ?_)
 ·rw[z9f,y0y (by simpa using e2)]
 ·rw[z9f,y1a (by simpa using e2)]
 ·rintro _ rfl;have hsd:wK n s ⟨al,ai,ah⟩ ⟨bl,bi,bh⟩=M++[⟨n,s,z9f ⟨bl,bi,bh⟩,ao⟩]:=by rw[wK,y1a e,hM]
  rw[hsd];exact⟨⟨_,⟨n,s,z9f ⟨bl,bi,bh⟩,ao⟩⟩,rfl,rfl,rfl,rfl,rfl,rfl,rfl,rfl,ok1,λ_ _=>⟨(),tl1 _ _ _,tl2 _ _ _ _,trivial⟩⟩
 ·have hsd:wK n s ⟨al,ai,ah⟩ ⟨bl,bi,bh⟩=M:=by rw[wK,y0y (by simp[e]),hM,y1t]
  rw[hsd];exact⟨(),rfl,rfl,trivial⟩
def yEa:dsideC.ok Tryz.prog 142:=okw mixed (gokc yBi (gokc zQv gok0)) 0 (λ_=>yTg) (λi=>yRu i) [] Tryz.func142 yPg
def yWv (i:DvI) (h:diffC.cnd i):yMe i:=by
 obtain⟨hvw,⟨s1,s2⟩,l1,l2,hn⟩:i.v.length=i.w.length/\(-4000000000000000000<=i.seq/\i.seq<=4000000000000000000)/\Vw.levs i.v<=100000000/\Vw.levs i.w<=100000000/\i.v.length<=1000000:=h;have hmx:(i.v.map yF).length=i.v.length:=y0z _;have hmy:(i.w.map yF).length=i.w.length:=y0z _;unfold yMe Vtopst340 gA fU fL mF lP mV zGv dI;rw[hmx,hmy];refine Cv.cnd.mk (λc=> ?_) (λ_=> ?_)
 ·have c:(i.v.length:Int)≠i.w.length:=by simpa using c
  omega
 refine⟨0,rfl,by simp[jV],by simp[jV,vC],λj=>j<=i.v.length,λj=>i.v.length-j,y2a _,λj hj=>zH (λe=> ?_) (λe=> ?_)⟩
 ·have hj:j<=i.v.length:=hj;obtain⟨a,ha⟩:=yE (l:=i.v) (i:=j) oM;obtain⟨b,hb⟩:=yE (l:=i.w) (i:=j) oM;have hd:=yDq i.v i.w j hj oM;have t1:=tV ha;have t2:=tV hb;have u1:=z4w i.v (j+1);have u2:=z4w i.w (j+1);have q1:=z0j j 1 a.1 b.1;have hvt:=zRv 0 j ha hb;rw[y1x]at hvt;have bdv:(0:Int)<=j/\(j:Int)<(i.v.length:Nat):=⟨oM,e⟩
  have bdw:(0:Int)<=j/\(j:Int)<(i.w.length:Nat):=⟨oM,oM⟩
  obtain⟨D,hD⟩:∃D:Dfr,D=Dfr.add ⟨i.seq,[]⟩ (jV 0 (i.v.take j) (i.w.take j)):=⟨_,rfl⟩
  have hDs:D.seq=i.seq+((jV 0 (i.v.take j) (i.w.take j)).length:Nat):=by rw[hD];rfl
  have hDo:D.out=[]++vC i.seq (jV 0 (i.v.take j) (i.w.take j)):=by rw[hD];rfl
  have hDl:D.out.length=(jV 0 (i.v.take j) (i.w.take j)).length:=by rw[hDo,y3k,tO]
  refine⟨⟨Z8,Z8⟩,1,rfl,bdv,_,_,_,_,_,(yJx ha).2.1,bdw,_,_,_,_,_,(yJx hb).2.1,⟨D,j,1,a.1,b.1⟩,rfl,rfl,rfl,rfl,rfl,rfl,rfl,rfl,rfl,rfl,rfl,rfl,hDs,by rw[hDo],⟨Z9,Z9,Z9⟩,λ_ _=>⟨⟨Z8,Z8⟩,2,rfl,bdv,_,_,_,_,_,(yJx ha).2.2,bdw,_,_,_,_,_,(yJx hb).2.2,⟨D.add (wK j 1 a.1 b.1),j,2,a.2,b.2⟩,rfl,rfl,rfl,rfl,rfl,rfl,rfl,rfl,rfl,rfl,rfl,rfl,rfl,rfl,⟨by simp only[Dfr.add];omega,by simp only[Dfr.add];omega,by simp only[Dfr.add];rw[y0x,tO];omega⟩,λ_ _=>⟨j+1,wjn oM,?_,?_,Z9,Z9,k0q⟩⟩⟩
  ·show(Dfr.add ⟨i.seq,[]⟩ (jV 0 (i.v.take (j+1)) (i.w.take (j+1)))).seq=((D.add (wK j 1 a.1 b.1)).add (wK j 2 a.2 b.2)).seq;rw[hvt,hD,zJm,zJm]
  ·show(Dfr.add ⟨i.seq,[]⟩ (jV 0 (i.v.take (j+1)) (i.w.take (j+1)))).out.map xI=((D.add (wK j 1 a.1 b.1)).add (wK j 2 a.2 b.2)).out.map xI;rw[hvt,hD,zJm,zJm]
 ·have hj:j<=i.v.length:=hj;rw[y1k (by omega),y1k (by omega)];exact⟨(),rfl,trivial⟩
def yGj:diffC.ok Tryz.prog 101:=okw mixed (gokc yEa gok0) 1 (λ_=>[]) (λi=>yWy i) [] Tryz.func101 yWv
def yMj:∀{l:List zG} {v:Lv},v∈grp l->(1<=v.count/\v.count<=l.length)/\∃o∈l,o.price=v.price
 |[],v,h=>by cases h
 |o::l,v,h=>by
  have ih:∀v∈grp l,(1<=v.count/\v.count<=l.length)/\∃o∈l,o.price=v.price:=λv hv=>yMj hv
  rw[grp]at h;rw[y1d];split at h
  ·rw[y2l]at h;subst h;exact⟨Z9,o,y1f,rfl⟩
  ·rename_i w ws e;rw[e]at ih;have hw:=ih w y1f;split at h
   ·rename_i ep;rcases y1r.1 h with rfl|h
    ·exact⟨Z9,o,y1f,ep.symm⟩
    ·obtain⟨a,x,hx,hp⟩:=ih v (y1g _ h);exact⟨oM,x,y1g _ hx,hp⟩
   ·rcases y1r.1 h with rfl|h
    ·exact⟨Z9,o,y1f,rfl⟩
    ·obtain⟨a,x,hx,hp⟩:=ih v h;exact⟨oM,x,y1g _ hx,hp⟩
def z5c:∀l:List zG,(grp l).length<=l.length
 |[]=>y1u 0
 |o::l=>by
  have ih:=z5c l;rw[grp,y1d];cases e:grp l with
  |nil=>simp
  |cons w ws=>
   rw[e,y1d]at ih;dsimp only;split
   ·rw[y1d];omega
   ·rw[y1d,y1d];omega
def yQw {s:Int} {L:List Lv} (h:yJt s L) (hp:∀l∈L,1<=l.qty/\1<=l.count) (i:Nat):LvAt s L i:=by
 intro a ha;have hm:=hp a (y1j ha);refine⟨hm.1,hm.2,?_⟩;rintro j b rfl hb;obtain⟨h1,e1⟩:=y1c.1 ha;obtain⟨h2,e2⟩:=y1c.1 hb;have:=(List.pairwise_iff_getElem.1 h) j (j+1) h2 h1 (y5z j);rw[e1,e2]at this;exact this
def z3d {p:Prd} {B:List (List zG)} (h:BWf p B) {k:Nat} {L:List zG} (hL:B[k]? =au L) {s:Int} (hs:s=1\/s=2):
 (∀i,LvAt s (uD L s) i)/\(uD L s).length<=255/\∀l∈uD L s,(1<=l.qty/\l.qty<=250000000)/\l.fit:=by
 obtain⟨h1,h2,h3⟩:=h.od k L hL;have hf:(L.filter λo=>decide (o.side=s)).length<=L.length:=y4i _ _;have hl:=z5c (L.filter λo=>decide (o.side=s));have hall:∀l∈uD L s,(1<=l.qty/\l.qty<=250000000)/\(1<=l.count/\l.count<=250)/\(-2000000<=l.price/\l.price<=2000000):=λl hm=>by
  have q:=z2s (λo ho=>h1 o (y2x.1 ho).1) hm;obtain⟨c,o,ho,e⟩:=yMj hm;have hp:=h.ok.prices hL o (y2x.1 ho).1;rw[e]at hp;exact⟨oM,oM,hp⟩
 refine⟨yQw (yKx h hL hs).1 λl hm=>⟨(hall l hm).1.1,(hall l hm).2.1.1⟩,by rw[uD];omega,λl hm=> ?_⟩;obtain⟨a,b,c⟩:=hall l hm;exact⟨a,⟨oM,oM⟩,⟨oM,oM⟩,⟨oM,oM⟩⟩
def zYp {p:Prd} {B:List (List zG)} (h:BWf p B) {k:Nat} {L:List zG} (hL:B[k]? =au L) {s:Int} (hs:s=1\/s=2) (hb:(bestL L s).2=ao):1<=(bestL L s).1.qty/\(bestL L s).1.qty<=250000000:=by
 have hm:(bestL L s).1∈uD L s:=by
  rw[bestL]at hb ⊢;split at hb
  ·cases hb
  ·rename_i v vs e;rw[e];exact y1f
 exact((z3d h hL hs).2.2 _ hm).1
def yNd {p:Prd} {B:List (List zG)} (h:BWf p B) {i s:Int} (hi:0<=i/\i<(B.map qI).length) (hs:s=1\/s=2) (hh:((B.map qI).getD i.toNat top0).has s=ao):1<=((B.map qI).getD i.toNat top0).qty s/\((B.map qI).getD i.toNat top0).qty s<=250000000:=by
 rw[y0z]at hi;obtain⟨L,hL⟩:=yE (l:=B) (i:=i.toNat) oM;have e:(B.map qI).getD i.toNat top0=qI L:=by rw[y1h,y2n,hL];rfl
 rw[e]at hh ⊢;obtain⟨t1,t2,t3,t4,t5,t6⟩:=zIw L;rcases hs with rfl|rfl
 ·rw[Top.has,y1a rfl,t3]at hh;rw[Top.qty,y1a rfl,t2];exact zYp h hL (.inl rfl) hh
 ·rw[Top.has,y0y (by decide),t6]at hh;rw[Top.qty,y0y (by decide),t5];exact zYp h hL (.inr rfl) hh
def yIk {p:Prd} {B:List (List zG)} (h:BWf p B) {n s:Int} (hs:s=1\/s=2) {q:Quote} (hq:q∈xO ⟨p,B.map qI,n⟩ s):(1<=q.qty/\q.qty<=250000000)/\(-2000000<=q.price/\q.price<=2000000):=by
 rw[xO,y2x]at hq;obtain⟨ok,-⟩:=z6n h.ok.pc (by rw[y0z,h.ok.bl]) hs hq.1;have qa:=yNd h ok.a ok.sa ok.ha;have qb:=yNd h ok.b ok.sb ok.hb;have hp:p.price n q.price=0:=by simpa using hq.2
 exact⟨by rw[ok.qty];omega,sG h.ok.pc hp⟩
def zHb (b:Quote) {M:Int}:∀(l:List Quote) (a:Int×Int),(∀q∈l,1<=q.qty/\q.qty<=M)->1<=a.1->a.1<=M->
 (1<=(l.foldl (λa q=>if q.price=b.price then(if q.qty>a.1 then q.qty else a.1,a.2+1)else a) a).1/\(l.foldl (λa q=>if q.price=b.price then(if q.qty>a.1 then q.qty else a.1,a.2+1)else a) a).1<=M)/\
 a.2<=(l.foldl (λa q=>if q.price=b.price then(if q.qty>a.1 then q.qty else a.1,a.2+1)else a) a).2/\(l.foldl (λa q=>if q.price=b.price then(if q.qty>a.1 then q.qty else a.1,a.2+1)else a) a).2<=a.2+l.length/\
 (b∈l->a.2+1<=(l.foldl (λa q=>if q.price=b.price then(if q.qty>a.1 then q.qty else a.1,a.2+1)else a) a).2)
 |[],a,_,h1,h2=>⟨⟨h1,h2⟩,y4s _,by simp,λh=>by cases h⟩
 |q::l,a,hq,h1,h2=>by
  have q0:=hq q y1f;rw[y5d,y1d];by_cases e:q.price=b.price
  ·rw[y1a e];obtain⟨r1,r2,r3,r4⟩:=zHb b (M:=M) l (if q.qty>a.1 then q.qty else a.1,a.2+1) (λx hx=>hq x (y1g _ hx)) (by dsimp only;split<;>omega) (by dsimp only;split<;>omega);dsimp only at r2 r3;exact⟨r1,oM,oM,λ_=>r2⟩
  ·rw[y0y e];obtain⟨r1,r2,r3,r4⟩:=zHb b (M:=M) l a (λx hx=>hq x (y1g _ hx)) h1 h2;refine⟨r1,r2,oM,λhb=> ?_⟩;rcases y1r.1 hb with rfl|hb
   ·exact absurd rfl e
   ·exact r4 hb
def yGb {l:List Quote} {s:Int} (hl:l.length<=100) (h:∀q∈l,(1<=q.qty/\q.qty<=250000000)/\(-2000000<=q.price/\q.price<=2000000)):
 ((x5 l s).2=ao->1<=(x5 l s).1.qty/\1<=(x5 l s).1.count)/\((x5 l s).2=am->(x5 l s).1=⟨0,0,0⟩)/\(x5 l s).1.fit:=by
 by_cases e:(zU l s).2=ao
 ·have hm:=zFq e;have hb:=h _ hm;have:=zHb (zU l s).1 (M:=250000000) l ((zU l s).1.qty,0) (λq hq=>(h q hq).1) hb.1.1 hb.1.2;have e2:x5 l s=(⟨(zU l s).1.price,(gZ l (zU l s).1).1,(gZ l (zU l s).1).2⟩,ao):=by rw[x5,y1a e]
  rw[e2];rw[<- gZ]at this;obtain⟨r1,r2,r3,r4⟩:=this;have r4:=r4 hm;dsimp only at r2 r3 r4 ⊢;exact⟨λ_=>⟨r1.1,oM⟩,λx=>(by cases x),⟨Z9,Z9⟩,⟨Z9,Z9⟩,⟨Z9,Z9⟩⟩
 ·have e2:x5 l s=(⟨0,0,0⟩,am):=by rw[x5,y0y e]
  rw[e2];exact⟨λx=>(by cases x),λ_=>rfl,⟨Z8,Z8⟩,⟨Z8,Z8⟩,⟨Z8,Z8⟩⟩
def aB {p:Prd} {B:List (List zG)} (h:BWf p B):cG (yU p B)/\yWd (yU p B)/\tU (yU p B):=by
 have hc:=xN p;have hlen:=zGz p B;have hside:∀k,k<p.count->∀s,s=1\/s=2->SdRight s (zCx p B k s)/\(zCx p B k s).fit:=λk hk s hs=>by
  obtain⟨L,hL⟩:=yE (l:=B) (i:=k) (by rw[h.ok.bl];exact hk);have e:B.getD k []=L:=zV hL;obtain⟨a1,a2,a3⟩:=z3d h hL hs;obtain⟨b1,b2,b3⟩:=yGb (s:=s) (zHq ⟨p,B.map qI,k⟩ s) (λq hq=>yIk h hs hq);rw[zCx,e];exact⟨⟨a1,a2,b1,b2⟩,λx hx=>(a3 x hx).2,b3⟩
 have hmem:∀b∈yU p B,∃k,k<p.count/\b=(zCx p B k 1,zCx p B k 2):=λb hb=>by
  rw[yU]at hb;obtain⟨k,hk,rfl⟩:=y2m.1 hb;exact⟨k,y4f.1 hk,rfl⟩
 refine⟨⟨λb hb=> ?_,oM⟩,λb hb=> ?_,⟨oM,λb hb=> ?_⟩⟩
 ·obtain⟨k,hk,rfl⟩:=hmem b hb;exact⟨(hside k hk 1 (.inl rfl)).1,(hside k hk 2 (.inr rfl)).1⟩
 ·obtain⟨k,hk,rfl⟩:=hmem b hb;exact⟨(hside k hk 1 (.inl rfl)).2,(hside k hk 2 (.inr rfl)).2⟩
 ·obtain⟨k,hk,rfl⟩:=hmem b hb;have a:=(hside k hk 1 (.inl rfl)).1.2.1;have c:=(hside k hk 2 (.inr rfl)).1.2.1;dsimp only;omega
structure VwG (p:Prd) (v:Vw):Prop where
 r:cG v
 f:yWd v
 s:tU v
 len:v.length=p.count
def zTk {p:Prd} {B:List (List zG)} (h:BWf p B):VwG p (yU p B):=⟨(aB h).1,(aB h).2.1,(aB h).2.2,zGz p B⟩
def yEk {p:Prd} {v:Vw} (h:VwG p v):Vw.levs v<=510*v.length:=by
 have:∀{v:Vw},(∀b∈v,SdRight 1 b.1/\SdRight 2 b.2)->Vw.levs v<=510*v.length:=by
  intro v
  induction v with
  |nil=>intro _;exact y1u _
  |cons a v ih=>
   intro h;have ha:=h a y1f;have:=ih λb hb=>h b (y1g _ hb)
   have h1:=ha.1.2.1;have h2:=ha.2.2.1;rw[Vw.levs]at this ⊢;rw[y1m,y2o,y1d];omega
 exact this h.r.1
@[reducible] def yZp (v:Vw):AObj:= .own 130 10 (v.map yF)
@[reducible] def zEr (v:Vw):AObj:= .fro 10 (v.map yF)
def lookOC:Con:=zR LkI (λi=>[mD i.p,.nm 0 0]) (λi=>[zD i.s]) (λi=>i.s.Rep i.p i.B/\BOk i.p i.B) (λ_=> .agg [.own 1]) (λi=>[zD i.s,yZp (yU i.p i.B)])
def gchkC:Con:=zR SbI (λi=>[.nm 0 0,zA i.s,roV 1 (bE i.b)]) (λ_=>[.gone]) (λi=>i.b.length<=1099511627776) (λi=>zA (zS i.s i.b).2) (λ_=>[.gone])
def glookC:Con:=zR Gt (λ_=>[.nm 0 0]) (λg=>GtO g) (λ_=>True) (λ_=> .nm 1 0) (λg=>GtO g)
def mlookC:Con:=zR Mkt (λ_=>[.nm 0 0]) (λm=>lU m) (λ_=>True) (λ_=> .nm 1 0) (λm=>lU m)
structure En where
 p:Prd
 v:Vw
 q:Int
 R:List (List UInt8)
@[reducible] def yLs:Nat:=95
def enC (e:En) (r l:Nat):AObj:= .cells [sV e.p.code,.own 5,zA e.p.tick,zA e.p.low,zA e.p.high,zA e.p.wide,zA e.p.rule,zA e.p.top,zA e.p.least,zA e.p.part,.own 6,.nm 1 0,.nm 2 0,.own l,zA e.q,.own r] yLs
structure Es where
 B:List (List zG)
 U:List Int
 W:List (Int×Int)
 q:Int
 R:List (List UInt8)
def Es.en (x:Es) (p:Prd):En:=⟨p,yU p x.B,x.q,x.R⟩
def jC (s:Int) (b:List UInt8):List UInt8:=lob s::b
def Es.X (x:Es) (p:Prd) (s:Int) (b:List UInt8):GtX:=zIe p x.B x.U x.W s b
def Es.M (x:Es) (p:Prd) (s:Int) (b:List UInt8):List VM:=jV 0 (yU p x.B) (yU p (x.X p s b).B)
def Es.ed (x:Es) (p:Prd) (s:Int) (b:List UInt8):Es:=⟨(x.X p s b).B,(x.X p s b).U,(x.X p s b).W,x.q+(x.M p s b).length,x.R++[jC s b]⟩
structure EdI where
 o:Mkt
 x:Es
 p:Prd
 s:Int
 b:List UInt8
def EdI.g (i:EdI):Gt:=⟨i.o,i.x.W⟩
@[reducible] def EdI.ok (i:EdI):Prop:=(i.o.Rep i.p i.x.B i.x.U/\BOk i.p i.x.B)/\i.b.length<=1048576/\(0<=i.s/\i.s<8)/\(0<=i.x.q/\i.x.q<=1000000000000000000)/\i.x.R.length<=1000000
def EdI.Y (i:EdI):Es:=i.x.ed i.p i.s i.b
def EdI.N (i:EdI):List zTf:=vC i.x.q (i.x.M i.p i.s i.b)
def EdI.O (i:EdI):List (Int×Rep):=(i.x.X i.p i.s i.b).O
def EdI.rows (i:EdI):List AObj:=[enC (i.x.en i.p) 4 7,.gone,GtR i.g,.gone,rcR i.x.R,.fro 1 (iE i.p.months),.fro 1 (iE i.p.settle),zEr (yU i.p i.x.B)]
def edC:Con where
 ι:=EdI
 pat:=λi=>[.nm 0 0,zA i.s,roV 1 (bE i.b)]
 pre:=λi=>i.rows
 cnd:=λi=>i.ok
 alts:=λi=>[{o:=Mkt,res:=λ_=> .agg [.own 10,.own 11],post:=λo=>[enC (i.Y.en i.p) 8 9,.gone,GtR ⟨o,i.Y.W⟩,.gone,.gone,.fro 1 (iE i.p.months),.fro 1 (iE i.p.settle),.gone,rcR i.Y.R,zEr (yU i.p i.Y.B),zTi i.O,z7h i.N],rel:=λo=>o.Rep i.p i.Y.B i.Y.U}]
def yGq (i:LkI):Prop:=
 ∃(a:Prd),sb a.code=sb i.p.code/\iE a.months=iE i.p.months/\a.tick=i.p.tick/\a.low=i.p.low/\a.high=i.p.high/\a.wide=i.p.wide/\a.rule=i.p.rule/\a.top=i.p.top/\a.least=i.p.least/\a.part=i.p.part/\iE a.settle=iE i.p.settle/\(yC a)/\∀(b:Unit),True->cnd (a.check !=0) (∃(c:Unit),da (zD i.s)/\aa yF (yU i.p i.B)=[]/\True) (∃(c:MSt),zD c=zD i.s/\(g7 c)/\∀(d:Unit),True->∃(e:Prd),sb e.code=sb i.p.code/\iE e.months=iE i.p.months/\e.tick=i.p.tick/\e.low=i.p.low/\e.high=i.p.high/\e.wide=i.p.wide/\e.rule=i.p.rule/\e.top=i.p.top/\e.least=i.p.least/\e.part=i.p.part/\iE e.settle=iE i.p.settle/\(yC e)/\∀(f:Unit),True->∃(g:Nat),(↑g:Int)=0/\aa yF (ab g (yU i.p i.B))=[]/\aa zZ (aa qI i.B)=aa zZ c.tops/\∃(h:Nat->Prop),∃(j:Nat->Nat),h g/\∀(k:Nat),h k->cnd (decide ((↑k:Int)<(↑e.count:Int))) (((0:Int)<=(0:Int)/\0<(↑(2:Nat):Int))/\∃(l:Int),zE [[dI 1],[dI 2]] (ar 0) 0 1=au [dI l]/\∃(m:SoI),m.inst=(↑k:Int)/\zC m.sd=l/\zD m.s=zD c/\(m.s.Rep m.p m.B/\m.B.length<=1000)/\∀(n:Unit),True->∃(p:tQ),sb p.i.p.code=sb i.p.code/\iE p.i.p.months=iE i.p.months/\p.i.p.tick=i.p.tick/\p.i.p.low=i.p.low/\p.i.p.high=i.p.high/\p.i.p.wide=i.p.wide/\p.i.p.rule=i.p.rule/\p.i.p.top=i.p.top/\p.i.p.least=i.p.least/\p.i.p.part=i.p.part/\iE p.i.p.settle=iE i.p.settle/\aa zZ p.i.tops=aa zZ (aa qI i.B)/\p.i.inst=(↑k:Int)/\zC p.s=l/\(qN p)/\∀(q:Unit),True->∃(r:BsI),aa zI r.l=aa zI (xO p.i (zC p.s))/\r.s=l/\(g9 r)/\∀(s:Unit),True->(gA)/\∃(t:Int),zE [[dI 1],[dI 2]] Vtopst340.toNat 0 1=au [dI t]/\∃(u:SoI),u.inst=(↑k:Int)/\zC u.sd=t/\zD u.s=zD m.s/\(u.s.Rep u.p u.B/\u.B.length<=1000)/\∀(v:Unit),True->∃(w:tQ),sb w.i.p.code=sb i.p.code/\iE w.i.p.months=iE i.p.months/\w.i.p.tick=i.p.tick/\w.i.p.low=i.p.low/\w.i.p.high=i.p.high/\w.i.p.wide=i.p.wide/\w.i.p.rule=i.p.rule/\w.i.p.top=i.p.top/\w.i.p.least=i.p.least/\w.i.p.part=i.p.part/\iE w.i.p.settle=iE i.p.settle/\aa zZ w.i.tops=aa zZ (aa qI i.B)/\w.i.inst=(↑k:Int)/\zC w.s=t/\(qN w)/\∀(x:Unit),True->∃(y:BsI),aa zI y.l=aa zI (xO w.i (zC w.s))/\y.s=t/\(g9 y)/\∀(z:Unit),True->((aa yF (ab k (yU i.p i.B))).length+1)*(112:Nat)<=(140737488355328:Nat)/\∃(a_1:Nat),(↑a_1:Int)=ap.wrap ((↑k:Int)+1)/\aa yF (ab a_1 (yU i.p i.B))=aa yF (ab k (yU i.p i.B))++[[D.ro 3 (aa lvE (cW m)),dI ((x5 r.l r.s).fst.price),dI ((x5 r.l r.s).fst.qty),dI ((x5 r.l r.s).fst.count),D.v (.bool (x5 r.l r.s).snd),D.ro 3 (aa lvE (cW u)),dI ((x5 y.l y.s).fst.price),dI ((x5 y.l y.s).fst.qty),dI ((x5 y.l y.s).fst.count),D.v (.bool (x5 y.l y.s).snd)]]/\da (ag 6 (aa zZ (aa qI i.B)))/\h a_1/\j a_1<j k/\zD u.s=zD c/\da (aj (Sx.V.agg [V.d (D.v (Value.slice none 0 0))]).cl 71)/\da (aj [V.d (D.v (av (sb i.p.code))),V.own 1,V.d (dI i.p.tick),V.d (dI i.p.low),V.d (dI i.p.high),V.d (dI i.p.wide),V.d (dI i.p.rule),V.d (dI i.p.top),V.d (dI i.p.least),V.d (dI i.p.part),V.own 2] 25)/\da (ag 1 (iE i.p.settle))/\da (ag 1 (iE i.p.months))) (∃(l:Unit),zD i.s=zD c/\aa yF (yU i.p i.B)=aa yF (ab k (yU i.p i.B))/\True))
def yWp (i:SbI):Prop:=
 ∃(i_1:SbI),i_1.s=i.s/\bE i_1.b=bE i.b/\i_1.b.length<=1099511627776/\∀(o:Unit),True->∃(o:Unit),(zS i.s i.b).snd=(zS i_1.s i_1.b).snd/\True
def yQd (g:Gt):Prop:=
 ∃(o:Unit),AObj.adt Mkt 5 yS g.m=qR g.m/\da (xA g.W)/\True
def yTd (m:Mkt):Prop:=
 ∃(o:Unit),da (sb m.p.code)/\da m.p.tick/\da m.p.low/\da m.p.high/\da m.p.wide/\da m.p.rule/\da m.p.top/\da m.p.least/\da m.p.part/\zD m.s=yS m 1/\da (zT m.used)/\ag 1 (iE m.p.months)=yS m 3/\ag 1 (iE m.p.settle)=yS m 4/\True
def lL (a:EdI):Prop:=sb a.p.code=sb a.p.code/\True/\da a.p.tick/\da a.p.low/\da a.p.high/\da a.p.wide/\da a.p.rule/\da a.p.top/\da a.p.least/\da a.p.part/\True/\True
def eZ (a:EdI):=(aa yF (yU a.p (a.x.X a.p a.s a.b).B))
def z2h (a:EdI) (b:Mkt) (c:Gt) (d:List (List UInt8)) (e:GdI):Prop:=∃(f:LkI),sb f.p.code=sb a.p.code/\iE f.p.months=iE a.p.months/\f.p.tick=a.p.tick/\f.p.low=a.p.low/\f.p.high=a.p.high/\f.p.wide=a.p.wide/\f.p.rule=a.p.rule/\f.p.top=a.p.top/\f.p.least=a.p.least/\f.p.part=a.p.part/\iE f.p.settle=iE a.p.settle/\zD f.s=zD b.s/\(f.s.Rep f.p f.B/\BOk f.p f.B)/\∀(g:Unit),True->∃(h:DvI),aa yF h.v=aa yF (yU a.p a.x.B)/\aa yF h.w=aa yF (yU f.p f.B)/\h.seq=a.x.q/\(ac h.v=ac h.w/\((-4000000000000000000)<=h.seq/\h.seq<=4000000000000000000)/\h.v.levs<=100000000/\h.w.levs<=100000000/\ac h.v<=1000000)/\∀(j:Unit),True->∃(k:Mkt),da (sb a.p.code)/\da a.p.tick/\da a.p.low/\da a.p.high/\da a.p.wide/\da a.p.rule/\da a.p.top/\da a.p.least/\da a.p.part/\a.x.q+(↑(a.x.M a.p a.s a.b).length:Int)=ap.wrap (a.x.q+(↑(aa xI (vC h.seq (jV 0 h.v h.w))).length:Int))/\sb k.p.code=sb b.p.code/\k.p.tick=b.p.tick/\k.p.low=b.p.low/\k.p.high=b.p.high/\k.p.wide=b.p.wide/\k.p.rule=b.p.rule/\k.p.top=b.p.top/\k.p.least=b.p.least/\k.p.part=b.p.part/\zD k.s=zD f.s/\zT k.used=zT b.used/\ag 1 (iE k.p.months)=ag 1 (iE b.p.months)/\ag 1 (iE k.p.settle)=ag 1 (iE b.p.settle)/\xA (a.x.X a.p a.s a.b).W=xA c.W/\da (ag 1 (iE a.p.months))/\da (ag 1 (iE a.p.settle))/\aa rcE (a.x.R++[jC a.s a.b])=aa rcE a.x.R++[[D.ro 1 (bE d.flatten)]]/\ag 10 (eZ a)=ag 10 (aa yF (yU f.p f.B))/\aa jB a.O=aa jB e.X.O/\aa xI a.N=aa xI (vC h.seq (jV 0 h.v h.w))/\k.Rep a.p (a.x.X a.p a.s a.b).B (a.x.X a.p a.s a.b).U
def zZb (a:EdI) (b:Mkt) (c:Gt) (d:List (List UInt8)) (e:GdI):Prop:=(lL a)/\z2h a b c d e
def yDv (a:EdI) (b:Gt) (c:List (List UInt8)) (d:GdI):Prop:=(lL a)/\∃(e:Mkt),sb e.p.code=sb b.m.p.code/\e.p.tick=b.m.p.tick/\e.p.low=b.m.p.low/\e.p.high=b.m.p.high/\e.p.wide=b.m.p.wide/\e.p.rule=b.m.p.rule/\e.p.top=b.m.p.top/\e.p.least=b.m.p.least/\e.p.part=b.m.p.part/\zD e.s=zD b.m.s/\zT e.used=zT b.m.used/\ag 1 (iE e.p.months)=ag 1 (iE b.m.p.months)/\ag 1 (iE e.p.settle)=ag 1 (iE b.m.p.settle)/\True/\∀(f:Unit),True->zZb a e b c d
def zIs (a:GdI):Prop:=(a.g.m.Rep a.p a.B a.U/\BOk a.p a.B)/\a.b.length<=1099511627776/\a.X=zIe a.p a.B a.U a.g.W a.s a.b
def eX (a:List (List UInt8)):Prop:=1<=a.flatten.length/\a.flatten.length<=1099511627776/\a.length<=1000
def Ved (i:EdI):Prop:=
 True/\True/\∃(a:List (List UInt8)),aa rcE a=[[D.ro 1 [[D.v (.int .u8 (aq.wrap i.s))]]],[D.ro 1 (bE i.b)]]/\(eX a)/\∀(b:Unit),True->True/\True/\((aa rcE i.x.R).length+1)*(24:Nat)<=(140737488355328:Nat)/\∃(c:GdI),c.s=i.s/\bE c.b=bE i.b/\GtR c.g=GtR i.g/\(zIs c)/\∀(d:Mkt),d.Rep c.p c.X.B c.X.U->(∃(e:Gt),qR e.m=qR d/\xA e.W=xA c.X.W/\True/\∀(f:Unit),True->(lL i)/\(∃(g:Mkt),sb g.p.code=sb e.m.p.code/\g.p.tick=e.m.p.tick/\g.p.low=e.m.p.low/\g.p.high=e.m.p.high/\g.p.wide=e.m.p.wide/\g.p.rule=e.m.p.rule/\g.p.top=e.m.p.top/\g.p.least=e.m.p.least/\g.p.part=e.m.p.part/\zD g.s=zD e.m.s/\zT g.used=zT e.m.used/\ag 1 (iE g.p.months)=ag 1 (iE e.m.p.months)/\ag 1 (iE g.p.settle)=ag 1 (iE e.m.p.settle)/\True/\∀(h:Unit),True->(lL i)/\(z2h i g e a c)/\zZb i g e a c)/\yDv i e a c)/\True/\(lL i)/\∃(e:Gt),qR e.m=qR d/\xA e.W=xA c.X.W/\True/\∀(f:Unit),True->yDv i e a c
open Classical in
open Classical in
def yWx {p:Prd} {v w:Vw} (hv:VwG p v) (hw:VwG p w):v.length=w.length/\Vw.levs v<=100000000/\Vw.levs w<=100000000/\v.length<=1000000:=by
 have h1:=yEk hv;have h2:=yEk hw;have h3:=hv.r.2;have h4:=hw.r.2;exact⟨by rw[hv.len,hw.len],oM,oM,oM⟩
def ySo (i:LkI) (h:lookOC.cnd i):yGq i:=by
 obtain⟨hR,hB⟩:i.s.Rep i.p i.B/\BOk i.p i.B:=h;have hcl:=xN i.p;have hbl:=hB.bl;have hcnt:i.s.cntOk:=hR.cnt oM;have hto:wJ (i.B.map qI):=hB.tops;have hll:=zGz i.p i.B;unfold yGq Vtopst340 gA cW qN u9 g9 g7 yC dI;refine⟨i.p,rF7 (rF3 ⟨rfl,hB.ps,λ_ _=>Cv.cnd.mk (λc=>absurd hB.pc (by simpa using c)) (λ_=>⟨i.s,rfl,hcnt,λ_ _=>⟨i.p,rF7 (rF3 ⟨rfl,hB.ps,λ_ _=>⟨0,rfl,rfl,by rw[hR.tops],λj=>j<=i.p.count,λj=>i.p.count-j,y2a _,λj hj=>zH (λhlt=> ?_) (λhlt=> ?_)⟩⟩)⟩⟩)⟩)⟩
 ·have hlt:j<i.p.count:=by omega
  have hat:atB i.B (j:Int)=i.B.getD j []:=by rw[atB,y0y (by omega),y1o]
  have hq:∀s,(xO ⟨i.p,i.B.map qI,j⟩ s).length<=1000000:=λs=>y3u (zHq _ _) Z8
  refine⟨⟨Z8,Z8⟩,1,rfl,⟨i.s,i.p,i.B,j,am⟩,rfl,rfl,rfl,⟨hR,Z9⟩,λ_ _=>⟨⟨⟨i.p,i.B.map qI,j⟩,am⟩,rF8 (rF5 ⟨rfl,⟨hB.ps,hto⟩,λ_ _=>⟨⟨xO ⟨i.p,i.B.map qI,j⟩ 1,1⟩,rfl,rfl,⟨.inl rfl,hq 1⟩,λ_ _=>⟨⟨Z8,Z8⟩,2,rfl,⟨i.s,i.p,i.B,j,ao⟩,rfl,rfl,rfl,⟨hR,Z9⟩,λ_ _=>⟨⟨⟨i.p,i.B.map qI,j⟩,ao⟩,rF8 (rF5 ⟨rfl,⟨hB.ps,hto⟩,λ_ _=>⟨⟨xO ⟨i.p,i.B.map qI,j⟩ 2,2⟩,rfl,rfl,⟨.inr rfl,hq 2⟩,λ_ _=>⟨?_,j+1,wjn oM,?_,rfl,Z9,Z9,rfl,k0q⟩⟩⟩)⟩⟩⟩⟩)⟩⟩
  ·rw[y0z,y1q];omega
  ·rw[y2e,z7x i.p i.B hlt,y3z,y1i,y1m,y4q];dsimp only;rw[hat];rfl
 ·have hj:j<=i.p.count:=hj;rw[y1k (by omega)];exact⟨(),k0q⟩
def zJz:lookOC.ok Tryz.prog 29:=okw mixed (gokc s9 (gokc yHs (gokc cR (gokc yJg (gokc zPv (gokc yLq gok0)))))) 1 (λ_=>[]) (λi=>yWj i) [] Tryz.func29 ySo
def zSg:gchkC.ok Tryz.prog 40:=okw (V:=yWp) mixed (gokc zXi gok0) 0 (λ_=>[]) (λ_=>[]) [] Tryz.func40 λ(i:SbI) h=>⟨i,rfl,rfl,h,λ_ _=>⟨(),rfl,trivial⟩⟩
def zFl:glookC.ok Tryz.prog 51:=okw (V:=yQd) mixed gok0 0 (λ_=>[]) (λ_=>[]) [] Tryz.func51 λ(g:Gt) _=>⟨(),rfl,rfl,trivial⟩
def zNk:mlookC.ok Tryz.prog 52:=okw (V:=yTd) mixed gok0 0 (λ_=>[]) (λ_=>[]) [] Tryz.func52 λ(m:Mkt) _=>⟨(),k0q⟩
def zKt {p:Prd} {B:List (List zG)} (h:BWf p B) (U:List Int) (W:List (Int×Int)) (s:Int) (b:List UInt8):BOk p (zIe p B U W s b).B:=by
 rw[zIe];split
 ·exact h.ok
 split
 ·exact h.ok
 rw[z5a];split
 ·exact h.ok
 split
 ·exact h.ok
 ·exact yUb h U _
def yUs {p:Prd} {v w:Vw} (hv:VwG p v) (hw:VwG p w):(jV 0 v w).length<=202000000:=by
 obtain⟨h1,h2,h3,h4⟩:=yWx hv hw;have:=yDq v w v.length (y1u _) oM;rw[y1k (y1u _),y1k (by omega)]at this;omega
def ved (i:EdI) (h:edC.cnd i):Ved i:=by
 obtain⟨o0,x,p,s,b⟩:=i;obtain⟨⟨hM,hB⟩,hb,⟨hs1,hs2⟩,⟨hq1,hq2⟩,hR⟩:(o0.Rep p x.B x.U/\BOk p x.B)/\b.length<=1048576/\(0<=s/\s<8)/\(0<=x.q/\x.q<=1000000000000000000)/\x.R.length<=1000000:=h;have hwf:=hM.s.wf hB;have hB2:BOk p (x.X p s b).B:=zKt hwf _ _ _ _;have hls:((lob s).toNat:Int)=aq.wrap s:=(nZ s).symm;unfold Ved yDv eX zZb z2h eZ zIs lL;dsimp only;refine⟨trivial,trivial,[[lob s],b],?_,⟨by simp,by simp;omega,by simp⟩,λ_ _=>⟨trivial,trivial,by rw[y0z];omega,⟨⟨o0,x.W⟩,p,x.B,x.U,s,b,x.X p s b⟩,rfl,rfl,rfl,⟨⟨hM,hB⟩,Z9,rfl⟩,λo ho=> ?_⟩⟩
 ·show[rcE [lob s],rcE b]=_;rw[rcE,rcE,<- hls];rfl
 have hv:=zTk hwf;have hw:=zTk (ho.s.wf hB2);obtain⟨g1,g2,g3,g4⟩:=yWx hv hw;have hl:=yUs hv hw;have er:aa rcE (x.R++[jC s b])=aa rcE x.R++[[D.ro 1 (bE [[lob s],b].flatten)]]:=by
  rw[y1i];simp[rcE,jC]
 have eq1:x.q+((x.M p s b).length:Int)=ap.wrap (x.q+(aa xI (vC x.q (x.M p s b))).length):=by
  have:(x.M p s b).length<=202000000:=hl;rw[y0z,tO,w64 (by omega)]
 refine⟨⟨⟨o,(x.X p s b).W⟩,rfl,rfl,trivial,λ_ _=>⟨k0q,⟨o,rF8 (rF4 ⟨rfl,trivial,λ_ _=>⟨k0q,?_,k0q,?_⟩⟩)⟩,k0q,o,rfl,rfl,rfl,rfl,rfl,rfl,rfl,rfl,rfl,rfl,rfl,rfl,rfl,trivial,λ_ _=>⟨k0q,?_⟩⟩⟩,trivial,k0q,⟨o,(x.X p s b).W⟩,rfl,rfl,trivial,λ_ _=>⟨k0q,o,rF8 (rF4 ⟨rfl,trivial,λ_ _=>⟨k0q,?_⟩⟩)⟩⟩
 all_goals exact⟨⟨o.s,p,(x.X p s b).B⟩,rF8 (rF3 ⟨rfl,⟨ho.s,hB2⟩,λ_ _=>⟨⟨yU p x.B,yU p (x.X p s b).B,x.q⟩,rfl,rfl,rfl,⟨g1,⟨Z9,Z9⟩,g2,g3,g4⟩,λ_ _=>⟨o,rF8 ⟨rfl,eq1,rF8 (rF7 ⟨rfl,er,rF3 ho⟩)⟩⟩⟩⟩)⟩
def yNx:edC.ok Tryz.prog 44:=okw mixed (gokc zSu (gokc yHb (gokc zFl (gokc zNk (gokc zJz (gokc yGj gok0)))))) 0 (λ_=>[]) (λ_=>[]) [] Tryz.func44 ved
structure EoI where
 o:Mkt
 x:Es
 p:Prd
 d:Dk
 s:Int
 b:List UInt8
def zLe (p:Prd) (x:Es) (o:Mkt) (d:Dk):List AObj:=[enC (x.en p) 4 7,jnR 3 x.R.length,GtR ⟨o,x.W⟩,DkR d,rcR x.R,.fro 1 (iE p.months),.fro 1 (iE p.settle),zEr (yU p x.B)]
@[reducible] def EoI.ok (i:EoI):Prop:=(i.o.Rep i.p i.x.B i.x.U/\BOk i.p i.x.B)/\i.b.length<=254/\(-1<=i.s/\i.s<8)/\(0<=i.x.q/\i.x.q<=1000000000000000000)/\i.x.R.length<=1000000/\i.d.b.length+i.b.length+7<=1048576
def EoI.Y (i:EoI):Es:=i.x.ed i.p i.s i.b
def EoI.N (i:EoI):List zTf:=vC i.x.q (i.x.M i.p i.s i.b)
def EoI.O (i:EoI):List (Int×Rep):=(i.x.X i.p i.s i.b).O
def EoI.D (i:EoI):Dk:=⟨i.d.b++yW (jC i.s i.b),i.d.safe⟩
def edoC:Con where
 ι:=EoI
 pat:=λi=>[.nm 0 0,zA i.s,roV 1 (bE i.b)]
 pre:=λi=>zLe i.p i.x i.o i.d
 cnd:=λi=>i.ok
 alts:=λi=>[
  {o:=Mkt,res:=λ_=> .agg [.own 8,zIh],post:=λo=>zLe i.p i.x o i.d++[zTi [(i.s,⟨2,0,0,0,0,0,0,(zS i.s i.b).2⟩)]],rel:=λo=>(zS i.s i.b).2≠0/\o.Rep i.p i.x.B i.x.U},
  {o:=Mkt,res:=λ_=> .agg [.own 10,.own 11],post:=λo=>[enC (i.Y.en i.p) 8 9,jnR 3 i.Y.R.length,GtR ⟨o,i.Y.W⟩,DkR i.D,.gone,.fro 1 (iE i.p.months),.fro 1 (iE i.p.settle),.gone,rcR i.Y.R,zEr (yU i.p i.Y.B),zTi i.O,z7h i.N],rel:=λo=>(zS i.s i.b).2=0/\o.Rep i.p i.Y.B i.Y.U}]
def es0 (p:Prd):Es:=⟨af p.count [],[],[],0,[]⟩
def yOd (p:Prd) (x:Es) (r:List UInt8):Es:=x.ed p (r.headD 0).toNat r.tail
def x4 (p:Prd) (L:List (List UInt8)):Es:=L.foldl (yOd p) (es0 p)
def yGs (r:List UInt8):Prop:=r≠[]/\(zS (r.headD 0).toNat r.tail).2=0
structure EpI where
 p:Prd
 s:Nat
 L:List (List UInt8)
 t:List UInt8
def EpI.j (i:EpI):JoI:=⟨i.s,i.L,i.t⟩
@[reducible] def EpI.ok (i:EpI):Prop:=(i.p.check=0/\i.p.small)/\((ScI.mk i.L i.t).ok/\i.j.d.ok)/\(∀r∈i.L,yGs r)/\i.L.length<=100000
def enK (e:En):AObj:= .cells [sV e.p.code,.own 5,zA e.p.tick,zA e.p.low,zA e.p.high,zA e.p.wide,zA e.p.rule,zA e.p.top,zA e.p.least,zA e.p.part,.own 6,.nm 2 0,.nm 3 0,.own 7,zA e.q,.own 4] yLs
def eopC:Con where
 ι:=EpI
 pat:=λi=>[mD i.p,.nm 0 0]
 pre:=λi=>[DkR i.j.d]
 cnd:=λi=>i.ok
 alts:=λi=>[{o:=Mkt,res:=λ_=> .tup [.nm 1 0,zA 0],post:=λo=>[DkR i.j.d',enK ((x4 i.p i.L).en i.p),jnR 0 i.L.length,GtR ⟨o,(x4 i.p i.L).W⟩,rcR (x4 i.p i.L).R,.fro 1 (iE i.p.months),.fro 1 (iE i.p.settle),zEr (yU i.p (x4 i.p i.L).B)],rel:=λo=>o.Rep i.p (x4 i.p i.L).B (x4 i.p i.L).U}]
structure EpJ where
 o:Mkt
 x:Es
 k:Nat
def yVj (i:EpI):List SAnn:=[{ι:=EpJ,slots:=λj=>[(6,.nm 2 0),(10,.nm 0 0),(48,.own 8),(50,zA j.k)],rows:=λj=>[enC (j.x.en i.p) 4 7,jnR 3 i.L.length,GtR ⟨j.o,j.x.W⟩,DkR i.j.d',rcR j.x.R,.fro 1 (iE i.p.months),.fro 1 (iE i.p.settle),zEr (yU i.p j.x.B),rcR i.L]}]
noncomputable def esnC:Con:=zR En (λ_=>[.nm 0 0]) (λe=>[enC e 4 7,.gone,.gone,.gone,.gone,.gone,.gone,zEr e.v]) (λe=>tU e.v) (λe=>roV 1 (bE (v8 e.v e.q))) (λe=>[enC e 4 7,.gone,.gone,.gone,.gone,.gone,.gone,zEr e.v])
def zEd (a:EdI):Prop:=(a.o.Rep a.p a.x.B a.x.U/\BOk a.p a.x.B)/\a.b.length<=1048576/\(0<=a.s/\a.s<8)/\(0<=a.x.q/\a.x.q<=1000000000000000000)/\a.x.R.length<=1000000
def dE (a:EoI):=(aa yF (yU a.p (a.x.X a.p a.s a.b).B))
def dP (a:EoI):=(↑(a.x.R++[jC a.s a.b]).length:Int)
def dL (a:EoI):=(↑(a.x.M a.p a.s a.b).length:Int)
def kO (a:EoI):=(aa yF (yU a.p a.x.B))
def yWg (i:EoI):Prop:=
 ∃(a:SbI),a.s=i.s/\bE a.b=bE i.b/\a.b.length<=1099511627776/\∀(b:Unit),True->cnd ((zS a.s a.b).snd !=0) (∃(c:GdI),c.s=i.s/\bE c.b=bE i.b/\GtR c.g=GtR (Gt.mk i.o i.x.W)/\(zIs c)/\∀(d:Mkt),d.Rep c.p c.X.B c.X.U->(∃(e:Mkt),True/\da (sb i.p.code)/\da i.p.tick/\da i.p.low/\da i.p.high/\da i.p.wide/\da i.p.rule/\da i.p.top/\da i.p.least/\da i.p.part/\da i.x.q/\da ((↑i.x.R.length:Int))/\GtR (Gt.mk e i.x.W)=GtR (Gt.mk d c.X.W)/\da (DkR i.d)/\da (aa rcE i.x.R)/\da (ag 1 (iE i.p.months))/\da (ag 1 (iE i.p.settle))/\ag 10 (kO i)=zEr (yU i.p i.x.B)/\[jB (i.s,Rep.mk 2 0 0 0 0 0 0 (zS i.s i.b).snd)]=aa jB c.X.O/\(zS i.s i.b).snd≠0/\e.Rep i.p i.x.B i.x.U)\/∃(o_1:Mkt),da (sb i.p.code)/\da i.p.tick/\da i.p.low/\da i.p.high/\da i.p.wide/\da i.p.rule/\da i.p.top/\da i.p.least/\da i.p.part/\i.x.q+(dL i)=i.x.q/\(dP i)=(↑i.x.R.length:Int)/\GtR (Gt.mk o_1 (i.x.X i.p i.s i.b).W)=GtR (Gt.mk d c.X.W)/\DkR i.D=DkR i.d/\da (ag 1 (iE i.p.months))/\da (ag 1 (iE i.p.settle))/\aa rcE (i.x.R++[jC i.s i.b])=aa rcE i.x.R/\ag 10 (dE i)=zEr (yU i.p i.x.B)/\aa jB i.O=aa jB c.X.O/\aa xI i.N=[]/\(zS i.s i.b).snd=0/\o_1.Rep i.p (i.x.X i.p i.s i.b).B (i.x.X i.p i.s i.b).U) (True/\True/\∃(c:List (List UInt8)),aa rcE c=[[D.ro 1 [[D.v (.int .u8 (aq.wrap i.s))]]],[D.ro 1 (bE i.b)]]/\(eX c)/\∀(d:Unit),True->True/\∃(e:JaI),bE e.l=bE c.flatten/\e.n=(↑i.x.R.length:Int)/\DkR e.d=DkR i.d/\(e.l.length<=255/\e.d.b.length+e.l.length+(6:Nat)<=(1048576:Nat)/\0<=e.n/\e.n<=1048576)/\∀(f:Unit),True->∃(g:EdI),g.s=i.s/\bE g.b=bE i.b/\sb g.p.code=sb i.p.code/\g.p.tick=i.p.tick/\g.p.low=i.p.low/\g.p.high=i.p.high/\g.p.wide=i.p.wide/\g.p.rule=i.p.rule/\g.p.top=i.p.top/\g.p.least=i.p.least/\g.p.part=i.p.part/\g.x.q=i.x.q/\GtR g.g=GtR (Gt.mk i.o i.x.W)/\aa rcE g.x.R=aa rcE i.x.R/\ag 1 (iE g.p.months)=ag 1 (iE i.p.months)/\ag 1 (iE g.p.settle)=ag 1 (iE i.p.settle)/\ag 10 (aa yF (yU g.p g.x.B))=zEr (yU i.p i.x.B)/\(zEd g)/\∀(h:Mkt),h.Rep g.p (g.x.X g.p g.s g.b).B (g.x.X g.p g.s g.b).U->(∃(j:Mkt),False)\/∃(o_1:Mkt),sb i.p.code=sb g.p.code/\i.p.tick=g.p.tick/\i.p.low=g.p.low/\i.p.high=g.p.high/\i.p.wide=g.p.wide/\i.p.rule=g.p.rule/\i.p.top=g.p.top/\i.p.least=g.p.least/\i.p.part=g.p.part/\i.x.q+(dL i)=g.x.q+(↑(g.x.M g.p g.s g.b).length:Int)/\(dP i)=e.n+1/\GtR (Gt.mk o_1 (i.x.X i.p i.s i.b).W)=GtR (Gt.mk h (g.x.X g.p g.s g.b).W)/\DkR i.D=DkR (Dk.mk (e.d.b++yW e.l) e.d.safe)/\ag 1 (iE i.p.months)=ag 1 (iE g.p.months)/\ag 1 (iE i.p.settle)=ag 1 (iE g.p.settle)/\aa rcE (i.x.R++[jC i.s i.b])=aa rcE (g.x.R++[jC g.s g.b])/\ag 10 (dE i)=ag 10 (eZ g)/\aa jB i.O=aa jB g.O/\aa xI i.N=aa xI g.N/\(zS i.s i.b).snd=0/\o_1.Rep i.p (i.x.X i.p i.s i.b).B (i.x.X i.p i.s i.b).U)
def nQ (a:EpI):Prop:=sb a.p.code=sb a.p.code/\True/\da a.p.tick/\da a.p.low/\da a.p.high/\da a.p.wide/\da a.p.rule/\da a.p.top/\da a.p.least/\da a.p.part/\True/\True
def mS (a:JoI):Prop:=((∀(b:List UInt8),b∈a.L->b.length<=255)/\(fF a.t).snd.snd=10/\(fsB a.L).length+a.t.length<=1048576)/\a.s<=(fsB a.L++a.t).length/\(fsB a.L++a.t).length<=1048576
def gH (a:EpI):=(aa yF (yU a.p (x4 a.p a.L).B))
def yUq (i:EpI):Prop:=
 ∃(a:Prd),sb a.code=sb i.p.code/\iE a.months=iE i.p.months/\a.tick=i.p.tick/\a.low=i.p.low/\a.high=i.p.high/\a.wide=i.p.wide/\a.rule=i.p.rule/\a.top=i.p.top/\a.least=i.p.least/\a.part=i.p.part/\iE a.settle=iE i.p.settle/\(yC a)/\(∀(b:Unit),a.check=0->∃(c:JoI),DkR c.d=DkR i.j.d/\(mS c)/\∀(d:Unit),True->∃(e:List Int),iE e=iE i.p.months/\e.length<=1000000/\∀(f:Unit),True->True/\∃(g:List Int),iE g=iE i.p.settle/\g.length<=1000000/\∀(h:Unit),True->∃(j:Gt),qR j.m=qR (Mkt.mk a (dS a) [])/\xA j.W=xA []/\True/\∀(k:Unit),True->(nQ i)/\(nQ i)/\∃(l:Mkt),sb l.p.code=sb j.m.p.code/\l.p.tick=j.m.p.tick/\l.p.low=j.m.p.low/\l.p.high=j.m.p.high/\l.p.wide=j.m.p.wide/\l.p.rule=j.m.p.rule/\l.p.top=j.m.p.top/\l.p.least=j.m.p.least/\l.p.part=j.m.p.part/\zD l.s=zD j.m.s/\zT l.used=zT j.m.used/\ag 1 (iE l.p.months)=ag 1 (iE j.m.p.months)/\ag 1 (iE l.p.settle)=ag 1 (iE j.m.p.settle)/\True/\∀(m:Unit),True->(nQ i)/\(nQ i)/\∃(n:LkI),sb n.p.code=sb i.p.code/\iE n.p.months=iE e/\n.p.tick=i.p.tick/\n.p.low=i.p.low/\n.p.high=i.p.high/\n.p.wide=i.p.wide/\n.p.rule=i.p.rule/\n.p.top=i.p.top/\n.p.least=i.p.least/\n.p.part=i.p.part/\iE n.p.settle=iE g/\zD n.s=zD l.s/\(n.s.Rep n.p n.B/\BOk n.p n.B)/\∀(p:Unit),True->(nQ i)/\∃(q:EpJ),(↑q.k:Int)=0/\da (sb i.p.code)/\da i.p.tick/\da i.p.low/\da i.p.high/\da i.p.wide/\da i.p.rule/\da i.p.top/\da i.p.least/\da i.p.part/\q.x.q=0/\(↑i.L.length:Int)=(↑c.L.length:Int)/\sb q.o.p.code=sb l.p.code/\q.o.p.tick=l.p.tick/\q.o.p.low=l.p.low/\q.o.p.high=l.p.high/\q.o.p.wide=l.p.wide/\q.o.p.rule=l.p.rule/\q.o.p.top=l.p.top/\q.o.p.least=l.p.least/\q.o.p.part=l.p.part/\zD q.o.s=zD n.s/\zT q.o.used=zT l.used/\ag 1 (iE q.o.p.months)=ag 1 (iE l.p.months)/\ag 1 (iE q.o.p.settle)=ag 1 (iE l.p.settle)/\xA q.x.W=xA j.W/\DkR i.j.d'=DkR c.d'/\aa rcE q.x.R=[]/\ag 1 (iE i.p.months)=ag 1 (iE e)/\ag 1 (iE i.p.settle)=ag 1 (iE g)/\aa yF (yU i.p q.x.B)=aa yF (yU n.p n.B)/\aa rcE i.L=aa rcE c.L/\∃(r:EpJ->Prop),∃(s:EpJ->Nat),r q/\∀(t:EpJ),r t->cnd (decide ((↑t.k:Int)<(↑(aa rcE c.L).length:Int))) ((0<=(↑t.k:Int)/\(↑t.k:Int)<(↑(aa rcE i.L).length:Int))/\∃(u:List (List D)),zE (aa rcE i.L) (↑t.k:Int).toNat 0 1=au [D.ro 1 u]/\cnd ((↑u.length:Int)==0) (∃(v:Mkt),False) (((0:Int)<=(0:Int)/\0<(↑u.length:Int))/\∃(v:Int),zE u (ar 0) 0 1=au [D.v (.int .u8 v)]/\((0:Int)<=(1:Int)/\1<=(↑u.length:Int))/\∃(w:SbI),w.s=ap.wrap v/\bE w.b=ae (ar 1) u/\w.b.length<=1099511627776/\∀(x:Unit),True->cnd ((zS w.s w.b).snd !=0) (∃(y:Mkt),False) (((0:Int)<=(0:Int)/\0<(↑u.length:Int))/\∃(y:Int),zE u (ar 0) 0 1=au [D.v (.int .u8 y)]/\((0:Int)<=(1:Int)/\1<=(↑u.length:Int))/\∃(z:EdI),z.s=ap.wrap y/\bE z.b=ae (ar 1) u/\sb z.p.code=sb i.p.code/\z.p.tick=i.p.tick/\z.p.low=i.p.low/\z.p.high=i.p.high/\z.p.wide=i.p.wide/\z.p.rule=i.p.rule/\z.p.top=i.p.top/\z.p.least=i.p.least/\z.p.part=i.p.part/\z.x.q=t.x.q/\GtR z.g=GtR (Gt.mk t.o t.x.W)/\aa rcE z.x.R=aa rcE t.x.R/\ag 1 (iE z.p.months)=ag 1 (iE i.p.months)/\ag 1 (iE z.p.settle)=ag 1 (iE i.p.settle)/\ag 10 (aa yF (yU z.p z.x.B))=ag 10 (aa yF (yU i.p t.x.B))/\(zEd z)/\∀(a_1:Mkt),a_1.Rep z.p (z.x.X z.p z.s z.b).B (z.x.X z.p z.s z.b).U->∃(a_2:EpJ),(↑a_2.k:Int)=ap.wrap ((↑t.k:Int)+1)/\sb i.p.code=sb z.p.code/\i.p.tick=z.p.tick/\i.p.low=z.p.low/\i.p.high=z.p.high/\i.p.wide=z.p.wide/\i.p.rule=z.p.rule/\i.p.top=z.p.top/\i.p.least=z.p.least/\i.p.part=z.p.part/\a_2.x.q=z.x.q+(↑(z.x.M z.p z.s z.b).length:Int)/\da ((↑i.L.length:Int))/\GtR (Gt.mk a_2.o a_2.x.W)=GtR (Gt.mk a_1 (z.x.X z.p z.s z.b).W)/\da (DkR i.j.d')/\aa rcE a_2.x.R=aa rcE (z.x.R++[jC z.s z.b])/\ag 1 (iE i.p.months)=ag 1 (iE z.p.months)/\ag 1 (iE i.p.settle)=ag 1 (iE z.p.settle)/\ag 10 (aa yF (yU i.p a_2.x.B))=ag 10 (eZ z)/\da (aa rcE i.L)/\r a_2/\s a_2<s t/\da (ag 1 (iE l.p.months))/\da (ag 1 (iE l.p.settle))/\da (ag 1 (iE j.m.p.months))/\da (ag 1 (iE j.m.p.settle))/\da (ag 1 (iE g))/\da (ag 1 (iE e))/\da (aj [V.d (D.v (av (sb i.p.code))),V.own 7,V.d (dI i.p.tick),V.d (dI i.p.low),V.d (dI i.p.high),V.d (dI i.p.wide),V.d (dI i.p.rule),V.d (dI i.p.top),V.d (dI i.p.least),V.d (dI i.p.part),V.own 8] 25)/\da (ag 1 (iE i.p.settle))/\da (ag 1 (iE i.p.months))))) (∃(u:Mkt),da ((0:Int))/\da (DkR i.j.d')/\da (sb i.p.code)/\da i.p.tick/\da i.p.low/\da i.p.high/\da i.p.wide/\da i.p.rule/\da i.p.top/\da i.p.least/\da i.p.part/\(x4 i.p i.L).q=t.x.q/\da ((↑i.L.length:Int))/\GtR (Gt.mk u (x4 i.p i.L).W)=GtR (Gt.mk t.o t.x.W)/\aa rcE (x4 i.p i.L).R=aa rcE t.x.R/\da (ag 1 (iE i.p.months))/\da (ag 1 (iE i.p.settle))/\ag 10 (gH i)=ag 10 (aa yF (yU i.p t.x.B))/\u.Rep i.p (x4 i.p i.L).B (x4 i.p i.L).U))/\∀(b:Unit),a.check≠0->cnd (a.check !=0) (∃(c:Mkt),False) (∃(c:JoI),DkR c.d=DkR i.j.d/\(mS c)/\∀(d:Unit),True->∃(e:List Int),iE e=iE i.p.months/\e.length<=1000000/\∀(f:Unit),True->True/\∃(g:List Int),iE g=iE i.p.settle/\g.length<=1000000/\∀(h:Unit),True->∃(j:Gt),False)
def y0d (e:En):Prop:=
 ∃(i:zOa),aa yF i.v=aa yF e.v/\i.seq=e.q/\(ac i.v<=1099511627776/\∀(b:Sd×Sd),b∈i.v->b.fst.levels.length<=1099511627776/\b.snd.levels.length<=1099511627776)/\∀(o:Unit),True->∃(o:Unit),bE (v8 e.v e.q)=bE (v8 i.v i.seq)/\da (sb e.p.code)/\da e.p.tick/\da e.p.low/\da e.p.high/\da e.p.wide/\da e.p.rule/\da e.p.top/\da e.p.least/\da e.p.part/\e.q=e.q/\ag 10 (aa yF e.v)=zEr e.v/\True
def yDy {s:Int} {b:List UInt8} (h:(zS s b).2=0):0<=s/\s<8:=by
 rw[zS]at h;split at h
 ·cases h
 ·omega
def y0n (i:EoI) (h:edoC.cnd i):yWg i:=by
 obtain⟨o0,x,p,d,s,b⟩:=i;obtain⟨⟨hM,hB⟩,hb,⟨hs1,hs2⟩,⟨hq1,hq2⟩,hR,hd⟩:(o0.Rep p x.B x.U/\BOk p x.B)/\b.length<=254/\(-1<=s/\s<8)/\(0<=x.q/\x.q<=1000000000000000000)/\x.R.length<=1000000/\d.b.length+b.length+7<=1048576:=h;have hls:((lob s).toNat:Int)=aq.wrap s:=(nZ s).symm;unfold yWg eZ eX zIs kO dL dP dE zEd;dsimp only;refine⟨⟨s,b⟩,rfl,rfl,Z9,λ_ _=>Cv.cnd.mk (λe=> ?_) (λe=> ?_)⟩
 ·have e:(zS s b).2≠0:=by simpa using e
  exact⟨⟨⟨o0,x.W⟩,p,x.B,x.U,s,b,z7c x.B x.U x.W s 0 (zS s b).2⟩,rfl,rfl,rfl,⟨⟨hM,hB⟩,Z9,by dsimp only;rw[zOs,y1a e]⟩,λo ho=> .inl ⟨o,trivial,rF8 (rF6 (rF3 ⟨rfl,e,ho⟩))⟩⟩
 ·have e:(zS s b).2=0:=by simpa using e
  have hs:=yDy e;refine⟨trivial,trivial,[[lob s],b],?_,⟨by simp,by simp;omega,by simp⟩,λ_ _=>⟨trivial,⟨d,x.R.length,jC s b⟩,by simp[jC],rfl,rfl,⟨by simp[jC];omega,by simp[jC];omega,Z9,Z9⟩,λ_ _=>⟨⟨o0,x,p,s,b⟩,rF8 (rF8 ⟨rfl,⟨⟨hM,hB⟩,Z9,hs,⟨hq1,hq2⟩,hR⟩,λo ho=> .inr ⟨o,rF6 (rF3 ⟨rfl,by simp,rF7 ⟨rfl,e,ho⟩⟩)⟩⟩)⟩⟩⟩;show[rcE [lob s],rcE b]=_;rw[rcE,rcE,<- hls];rfl
def edo_ok:edoC.ok Tryz.prog 12:=okw mixed (gokc zSg (gokc yHb (gokc zSu (gokc yHm (gokc yNx gok0))))) 0 (λ_=>[]) (λ_=>[]) [] Tryz.func12 y0n
def yVl {p:Prd} {L:List (List UInt8)} {k:Nat} {r:List UInt8} (h:L[k]? =au r):x4 p (L.take (k+1))=yOd p (x4 p (L.take k)) r:=by
 rw[y2e,h,y3z,x4,y5q];rfl
def yLa {p:Prd} {x:Es} {o:Mkt} (hM:o.Rep p x.B x.U) (hB:BOk p x.B) (s:Int) (b:List UInt8) {o2:Mkt} (ho:o2.Rep p (x.X p s b).B (x.X p s b).U):
 BOk p (x.ed p s b).B/\x.q<=(x.ed p s b).q/\(x.ed p s b).q<=x.q+202000000/\(x.ed p s b).R.length=x.R.length+1:=by
 have hwf:=hM.s.wf hB;have hB2:BOk p (x.X p s b).B:=zKt hwf _ _ _ _;have:(x.M p s b).length<=202000000:=yUs (zTk hwf) (zTk (ho.s.wf hB2));refine⟨hB2,?_,?_,?_⟩
 ·show x.q<=x.q+((x.M p s b).length:Int);omega
 ·show x.q+((x.M p s b).length:Int)<=_;omega
 ·show(x.R++[jC s b]).length=_;rw[y0x];rfl
def yZn (i:EpI) (h:eopC.cnd i):yUq i:=by
 obtain⟨p,s,L,t⟩:=i;obtain⟨⟨hc,hsm⟩,⟨hs,hd⟩,hr,hl⟩:(p.check=0/\p.small)/\((ScI.mk L t).ok/\(JoI.mk s L t).d.ok)/\(∀r∈L,yGs r)/\L.length<=100000:=h;have hB0:BOk p (af p.count []):=BOk.new hc hsm;have hM0:=z3x p;have m6:=(jJ hc).m6;have sl:=(jJ hc).s1;have hml:(L.map rcE).length=L.length:=y0z _;unfold yUq gH mS nQ eZ zEd yC dI;dsimp only;refine⟨p,rF7 (rF3 ⟨rfl,hsm,λ_ _=>⟨⟨s,L,t⟩,rfl,⟨hs,hd⟩,λ_ _=>⟨p.months,rfl,oM,λ_ _=>⟨trivial,p.settle,rfl,oM,λ_ _=>⟨⟨mk0 p,[]⟩,rfl,rfl,trivial,λ_ _=>⟨k0q,k0q,mk0 p,rF8 (rF4 ⟨rfl,trivial,λ_ _=>⟨k0q,k0q,⟨(mk0 p).s,p,af p.count []⟩,rF8 (rF3 ⟨rfl,⟨hM0.s,hB0⟩,λ_ _=>⟨k0q,⟨mk0 p,es0 p,0⟩,rF8 (rF8 (rF8 (rF7 ⟨rfl,λj=>(j.k<=L.length/\j.x=x4 p (L.take j.k))/\(j.o.Rep p j.x.B j.x.U/\BOk p j.x.B)/\(0<=j.x.q/\j.x.q<=202000000*(j.k:Int))/\j.x.R.length=j.k,λj=>L.length-j.k,⟨⟨y2a _,rfl⟩,⟨hM0,hB0⟩,⟨y4s _,y4s _⟩,rfl⟩,?_⟩)))⟩⟩)⟩⟩)⟩⟩⟩⟩⟩,λ_ hne=>absurd hc hne⟩)⟩;rintro⟨o,x,k⟩ ⟨⟨hk,hx⟩,⟨hM,hB⟩,⟨hq1,hq2⟩,hR⟩;dsimp only at hk hx hM hB hq1 hq2 hR ⊢;refine zH (λhlt=> ?_) (λhlt=> ?_)
 ·obtain⟨r,hrk⟩:=yE (l:=L) (i:=k) oM;have hrm:=y1j hrk;obtain⟨hne,hrd⟩:=hr r hrm;have hr255:=hs.1 r hrm;obtain⟨c,b,rfl⟩:∃c b,r=c::b:=by
   cases r with
   |nil=>exact absurd rfl hne
   |cons c b=>exact⟨c,b,rfl⟩
  have hrd:(zS (c.toNat:Int) b).2=0:=hrd;have hc8:=yDy hrd;have wc:ap.wrap (c.toNat:Int)=c.toNat:=w64 oM;rw[y1d]at hr255;refine⟨⟨oM,oM⟩,bE (c::b),zYw hrk,Cv.cnd.mk (λe=>by have e:=beq_iff_eq.1 e;rw[yL,y1d]at e;omega) (λ_=>⟨⟨Z8,by rw[yL,y1d];omega⟩,c.toNat,fH rfl,⟨Z8,by rw[yL,y1d];omega⟩,⟨c.toNat,b⟩,wc.symm,rfl,Z9,λ_ _=>Cv.cnd.mk (λe=>by simp[hrd]at e) (λ_=>⟨⟨Z8,by rw[yL,y1d];omega⟩,c.toNat,fH rfl,⟨Z8,by rw[yL,y1d];omega⟩,⟨o,x,p,c.toNat,b⟩,wc.symm,rF8 (rF7 ⟨rfl,⟨⟨hM,hB⟩,Z9,hc8,⟨hq1,Z9⟩,Z9⟩,λo2 ho=> ?_⟩)⟩)⟩)⟩;obtain⟨t1,t2,t3,t4⟩:=yLa hM hB (c.toNat:Int) b ho;exact⟨⟨o2,x.ed p c.toNat b,k+1⟩,wjn oM,rF8 (rF6 (rF3 ⟨rfl,⟨⟨Z9,by dsimp only;rw[yVl hrk,<- hx];rfl⟩,⟨ho,t1⟩,⟨Z9,Z9⟩,Z9⟩,Z9,k0q⟩))⟩
 ·obtain rfl:k=L.length:=by omega
  rw[y3w]at hx;subst hx;exact⟨o,by repeat'(first|exact rfl|exact hM|apply And.intro)⟩
def eop_ok:eopC.ok Tryz.prog 18:=okw mixed (gokc zCs (gokc yDh (gokc zOr (gokc zHt (gokc zFl (gokc zNk (gokc zJz (gokc zSg (gokc yNx gok0))))))))) 0 (λ_=>[]) (λi=>yVj i) [] Tryz.func18 yZn
def esn_ok:esnC.ok Tryz.prog 10:=okw (V:=y0d) mixed (gokc yRh gok0) 0 (λ_=>[]) (λ_=>[]) [] Tryz.func10 λ(e:En) h=>⟨⟨e.v,e.q⟩,rfl,rfl,h,λ_ _=>⟨(),k0q⟩⟩
@[reducible] def yLg:Nat:=39
structure SdJ where
 x:Es
 o:Mkt
 d:Dk
 O:List (Int×Rep)
 N:List zTf
def y0a (p:Prd) (j:SdJ):List AObj:=zLe p j.x j.o j.d++[.cells [.own 9,.own 10] yLg,zTi j.O,z7h j.N]
def doJ (p:Prd) (e a:Nat):SAnn:={ι:=SdJ,slots0:=λ_=>[(e,.nm 0 0)],rows0:=λj=>zLe p j.x j.o j.d,slots:=λj=>[(e,.nm 0 0),(a,.nm 8 0)],rows:=y0a p}
noncomputable def known24C:Con:=zR Prd (λ_=>[]) (λ_=>[]) (λp=>p=three 1) (λ_=>yT ao) (λ_=>[])
def yAw (p:Prd):List (Nat×SAnn):=[(28,doJ p 3 7),(32,doJ p 3 8)]
def xB (a:Prd) (b:SdJ):=(aa yF (yU a b.x.B))
def mB (a:Int):Prop:=ag 1 (iE [(500:Int),(505:Int),(490:Int)])=ag 1 (iE [(500:Int),(505:Int),(490:Int)])/\da (ag 1 (iE [(320:Int),(321:Int),(323:Int)]))/\da (aj [V.d (D.v (av (sb [(67:UInt8),(76:UInt8)]))),V.own 1,V.d (dI 5),V.d (dI 0),V.d (dI 1000),V.d (dI 200),V.d (dI a),V.d (dI 4),V.d (dI 2),V.d (dI 40),V.own 2] 25)
def tE (a:EpI) (b:Int):Prop:=ag 1 (iE a.p.months)=ag 1 (iE a.p.months)/\da (ag 1 (iE a.p.settle))/\da (ag 10 (gH a))/\mB b
def sM (a:SdJ->Prop) (b:SdJ) (c:Prd) (d:SdJ) (e:EpI) (f:Int):Prop:=a b/\da (ag 1 (iE c.months))/\da (ag 1 (iE c.settle))/\da (ag 10 (xB c d))/\da (aj [V.own 20,V.own 21] yLg)/\da (ak yDs 9 (aa jB d.O))/\da (ak zZc 7 (aa xI d.N))/\tE e f
def sH (a:SdJ->Prop) (b:SdJ) (c:EpI) (d:Int):Prop:=a b/\tE c d
def kV (a:EpI):Prop:=(a.p.check=0/\a.p.code.length<=1099511627776/\a.p.months.length<=1099511627776/\a.p.settle.length<=1099511627776)/\(((∀(b:List UInt8),b∈a.L->b.length<=255)/\(fF a.t).snd.snd=10/\(fsB a.L).length+a.t.length<=1048576)/\a.s<=(fsB a.L++a.t).length/\(fsB a.L++a.t).length<=1048576)/\(∀(b:List UInt8),b∈a.L->b≠[]/\(zS (↑(b.headD (0:UInt8)).toNat:Int) b.tail).snd=0)/\a.L.length<=100000
def gF (a:EoI):Prop:=(a.o.Rep a.p a.x.B a.x.U/\BOk a.p a.x.B)/\a.b.length<=254/\((-1)<=a.s/\a.s<8)/\(0<=a.x.q/\a.x.q<=1000000000000000000)/\a.x.R.length<=1000000/\a.d.b.length+a.b.length+(7:Nat)<=(1048576:Nat)
def vD (a:En):Prop:=ac a.v<=1099511627776/\∀(b:Sd×Sd),b∈a.v->b.fst.levels.length<=1099511627776/\b.snd.levels.length<=1099511627776
def zXp (p:Prd):Prop:=
 ∃(a:Int),a=1/\True/\∀(b:Unit),True->∃(c:Unit),True/\∀(d:Unit),True->∃(e:EpI),sb e.p.code=sb [(67:UInt8),(76:UInt8)]/\iE e.p.months=iE [(320:Int),(321:Int),(323:Int)]/\e.p.tick=5/\e.p.low=0/\e.p.high=1000/\e.p.wide=200/\e.p.rule=a/\e.p.top=4/\e.p.least=2/\e.p.part=40/\iE e.p.settle=iE [(500:Int),(505:Int),(490:Int)]/\DkR e.j.d=DkR (Dk.mk [] 0)/\(kV e)/\∀(f:Mkt),f.Rep e.p (x4 e.p e.L).B (x4 e.p e.L).U->∃(g:Cmd),g.kind=1/\g.id=7/\g.inst=0/\g.side=1/\g.price=5/\g.qty=3/\g.least=0/\g.time=1/\sb g.label=ByteArray.mk #[]/\(g.label=[]/\g.right=0)/\∀(h:Unit),True->∃(j:SdJ),sb p.code=sb e.p.code/\p.tick=e.p.tick/\p.low=e.p.low/\p.high=e.p.high/\p.wide=e.p.wide/\p.rule=e.p.rule/\p.top=e.p.top/\p.least=e.p.least/\p.part=e.p.part/\j.x.q=(x4 e.p e.L).q/\(↑j.x.R.length:Int)=(↑e.L.length:Int)/\GtR (Gt.mk j.o j.x.W)=GtR (Gt.mk f (x4 e.p e.L).W)/\DkR j.d=DkR e.j.d'/\aa rcE j.x.R=aa rcE (x4 e.p e.L).R/\ag 1 (iE p.months)=ag 1 (iE e.p.months)/\ag 1 (iE p.settle)=ag 1 (iE e.p.settle)/\ag 10 (xB p j)=ag 10 (gH e)/\∃(k:SdJ->Prop),(∃(l:EoI),l.s=2/\bE l.b=bE g.enc/\sb l.p.code=sb p.code/\l.p.tick=p.tick/\l.p.low=p.low/\l.p.high=p.high/\l.p.wide=p.wide/\l.p.rule=p.rule/\l.p.top=p.top/\l.p.least=p.least/\l.p.part=p.part/\l.x.q=j.x.q/\(↑l.x.R.length:Int)=(↑j.x.R.length:Int)/\GtR (Gt.mk l.o l.x.W)=GtR (Gt.mk j.o j.x.W)/\DkR l.d=DkR j.d/\aa rcE l.x.R=aa rcE j.x.R/\ag 1 (iE l.p.months)=ag 1 (iE p.months)/\ag 1 (iE l.p.settle)=ag 1 (iE p.settle)/\ag 10 (kO l)=ag 10 (xB p j)/\(gF l)/\(∀(m:Mkt),(zS l.s l.b).snd≠0/\m.Rep l.p l.x.B l.x.U->∃(n:SdJ),sb p.code=sb l.p.code/\p.tick=l.p.tick/\p.low=l.p.low/\p.high=l.p.high/\p.wide=l.p.wide/\p.rule=l.p.rule/\p.top=l.p.top/\p.least=l.p.least/\p.part=l.p.part/\n.x.q=l.x.q/\(↑n.x.R.length:Int)=(↑l.x.R.length:Int)/\GtR (Gt.mk n.o n.x.W)=GtR (Gt.mk m l.x.W)/\DkR n.d=DkR l.d/\aa rcE n.x.R=aa rcE l.x.R/\ag 1 (iE p.months)=ag 1 (iE l.p.months)/\ag 1 (iE p.settle)=ag 1 (iE l.p.settle)/\ag 10 (xB p n)=ag 10 (kO l)/\aa jB n.O=[jB (l.s,Rep.mk 2 0 0 0 0 0 0 (zS l.s l.b).snd)]/\aa xI n.N=[]/\sH k n e a)/\∀(m:Mkt),(zS l.s l.b).snd=0/\m.Rep l.p (l.x.X l.p l.s l.b).B (l.x.X l.p l.s l.b).U->∃(n:SdJ),sb p.code=sb l.p.code/\p.tick=l.p.tick/\p.low=l.p.low/\p.high=l.p.high/\p.wide=l.p.wide/\p.rule=l.p.rule/\p.top=l.p.top/\p.least=l.p.least/\p.part=l.p.part/\n.x.q=l.x.q+(dL l)/\(↑n.x.R.length:Int)=(dP l)/\GtR (Gt.mk n.o n.x.W)=GtR (Gt.mk m (l.x.X l.p l.s l.b).W)/\DkR n.d=DkR l.D/\aa rcE n.x.R=aa rcE (l.x.R++[jC l.s l.b])/\ag 1 (iE p.months)=ag 1 (iE l.p.months)/\ag 1 (iE p.settle)=ag 1 (iE l.p.settle)/\ag 10 (xB p n)=ag 10 (dE l)/\aa jB n.O=aa jB l.O/\aa xI n.N=aa xI l.N/\sH k n e a)/\∀(l:SdJ),k l->∃(m:SdJ),da (sb p.code)/\da p.tick/\da p.low/\da p.high/\da p.wide/\da p.rule/\da p.top/\da p.least/\da p.part/\m.x.q=l.x.q/\(↑m.x.R.length:Int)=(↑l.x.R.length:Int)/\GtR (Gt.mk m.o m.x.W)=GtR (Gt.mk l.o l.x.W)/\DkR m.d=DkR l.d/\aa rcE m.x.R=aa rcE l.x.R/\da (ag 1 (iE p.months))/\da (ag 1 (iE p.settle))/\ag 10 (xB p m)=ag 10 (xB p l)/\∃(n:SdJ->Prop),((1:Nat)<=(7:Nat)/\∃(q:EoI),q.s=2/\bE q.b=[[D.v (.int .u8 114)],[D.v (.int .u8 117)],[D.v (.int .u8 98)],[D.v (.int .u8 98)],[D.v (.int .u8 105)],[D.v (.int .u8 115)],[D.v (.int .u8 104)]]/\sb q.p.code=sb p.code/\q.p.tick=p.tick/\q.p.low=p.low/\q.p.high=p.high/\q.p.wide=p.wide/\q.p.rule=p.rule/\q.p.top=p.top/\q.p.least=p.least/\q.p.part=p.part/\q.x.q=m.x.q/\(↑q.x.R.length:Int)=(↑m.x.R.length:Int)/\GtR (Gt.mk q.o q.x.W)=GtR (Gt.mk m.o m.x.W)/\DkR q.d=DkR m.d/\aa rcE q.x.R=aa rcE m.x.R/\ag 1 (iE q.p.months)=ag 1 (iE p.months)/\ag 1 (iE q.p.settle)=ag 1 (iE p.settle)/\ag 10 (kO q)=ag 10 (xB p m)/\(gF q)/\(∀(r:Mkt),(zS q.s q.b).snd≠0/\r.Rep q.p q.x.B q.x.U->∃(s:SdJ),sb p.code=sb q.p.code/\p.tick=q.p.tick/\p.low=q.p.low/\p.high=q.p.high/\p.wide=q.p.wide/\p.rule=q.p.rule/\p.top=q.p.top/\p.least=q.p.least/\p.part=q.p.part/\s.x.q=q.x.q/\(↑s.x.R.length:Int)=(↑q.x.R.length:Int)/\GtR (Gt.mk s.o s.x.W)=GtR (Gt.mk r q.x.W)/\DkR s.d=DkR q.d/\aa rcE s.x.R=aa rcE q.x.R/\ag 1 (iE p.months)=ag 1 (iE q.p.months)/\ag 1 (iE p.settle)=ag 1 (iE q.p.settle)/\ag 10 (xB p s)=ag 10 (kO q)/\aa jB s.O=[jB (q.s,Rep.mk 2 0 0 0 0 0 0 (zS q.s q.b).snd)]/\aa xI s.N=[]/\sM n s p l e a)/\∀(r:Mkt),(zS q.s q.b).snd=0/\r.Rep q.p (q.x.X q.p q.s q.b).B (q.x.X q.p q.s q.b).U->∃(s:SdJ),sb p.code=sb q.p.code/\p.tick=q.p.tick/\p.low=q.p.low/\p.high=q.p.high/\p.wide=q.p.wide/\p.rule=q.p.rule/\p.top=q.p.top/\p.least=q.p.least/\p.part=q.p.part/\s.x.q=q.x.q+(dL q)/\(↑s.x.R.length:Int)=(dP q)/\GtR (Gt.mk s.o s.x.W)=GtR (Gt.mk r (q.x.X q.p q.s q.b).W)/\DkR s.d=DkR q.D/\aa rcE s.x.R=aa rcE (q.x.R++[jC q.s q.b])/\ag 1 (iE p.months)=ag 1 (iE q.p.months)/\ag 1 (iE p.settle)=ag 1 (iE q.p.settle)/\ag 10 (xB p s)=ag 10 (dE q)/\aa jB s.O=aa jB q.O/\aa xI s.N=aa xI q.N/\sM n s p l e a)/\∀(q:SdJ),n q->∃(r:En),sb r.p.code=sb p.code/\r.p.tick=p.tick/\r.p.low=p.low/\r.p.high=p.high/\r.p.wide=p.wide/\r.p.rule=p.rule/\r.p.top=p.top/\r.p.least=p.least/\r.p.part=p.part/\r.q=q.x.q/\ag 10 (aa yF r.v)=ag 10 (xB p q)/\(vD r)/\∀(s:Unit),True->∃(t:ByteArray),da ((1:Nat))/\bE (v8 r.v r.q)=qF t/\∃(u:JaI),u.n=(↑q.x.R.length:Int)/\DkR u.d=DkR q.d/\(u.d.safe<=u.d.b.length/\u.d.b.length<=1048576)/\∀(v:Unit),True->∃(w:DnI),w.n=0/\DkR w.d=DkR (Dk.mk u.d.b u.d.b.length)/\(w.d.safe<=w.d.b.length/\w.d.b.length<=1048576)/\∀(x:Unit),True->∃(y:EpI),sb y.p.code=sb [(67:UInt8),(76:UInt8)]/\iE y.p.months=iE [(320:Int),(321:Int),(323:Int)]/\y.p.tick=5/\y.p.low=0/\y.p.high=1000/\y.p.wide=200/\y.p.rule=a/\y.p.top=4/\y.p.least=2/\y.p.part=40/\iE y.p.settle=iE [(500:Int),(505:Int),(490:Int)]/\DkR y.j.d=DkR (Dk.mk (ab (w.d.keep w.n) w.d.b) (w.d.keep w.n))/\(kV y)/\∀(z:Mkt),z.Rep y.p (x4 y.p y.L).B (x4 y.p y.L).U->cnd ((↑(aa jB l.O).length:Int)==1) (cnd ((↑(aa xI l.N).length:Int)==1) (((0:Int)<=(0:Int)/\0<(↑(aa xI l.N).length:Int))/\∃(a_1:Int),zE (aa xI l.N) (ar 0) 0 1=au [dI a_1]/\cnd (a_1==1) (cnd ((↑(aa jB q.O).length:Int)==1) (cnd ((↑(aa xI q.N).length:Int)==0) (cnd ((↑(aa rcE q.x.R).length:Int)==1) (∃(a_2:En),sb a_2.p.code=sb y.p.code/\a_2.p.tick=y.p.tick/\a_2.p.low=y.p.low/\a_2.p.high=y.p.high/\a_2.p.wide=y.p.wide/\a_2.p.rule=y.p.rule/\a_2.p.top=y.p.top/\a_2.p.least=y.p.least/\a_2.p.part=y.p.part/\a_2.q=(x4 y.p y.L).q/\ag 10 (aa yF a_2.v)=ag 10 (gH y)/\(vD a_2)/\∀(a_3:Unit),True->∃(a_4:ByteArray),da ((1:Nat))/\bE (v8 a_2.v a_2.q)=qF a_4/\cnd (a_4.toList==t.toList) (∃(a_5:Unit),ao=(a_2.q==1)/\True) (∃(a_5:Unit),ao=am/\True)) (∃(a_2:Unit),ao=am/\True)) (∃(a_2:Unit),ao=am/\True)) (∃(a_2:Unit),ao=am/\True)) (∃(a_2:Unit),ao=am/\True)) (∃(a_1:Unit),ao=am/\True)) (∃(a_1:Unit),ao=am/\True)
def kb24:Cmd:=⟨1,7,0,1,5,3,0,1,[]⟩
def yRe:List UInt8:=[114,117,98,98,105,115,104]
def yKd:(zS 2 kb24.enc).2=0:=by decide+kernel
def yKe:(zS 2 yRe).2=31:=by decide+kernel
def yCh:kb24.right=0:=by decide+kernel
def yHa:kb24.enc.length=37:=by decide+kernel
def yRy:((es0 (three 1)).X (three 1) 2 kb24.enc).O.length=1:=by decide+kernel
def ySp:((es0 (three 1)).M (three 1) 2 kb24.enc).length=1:=by decide+kernel
def yVv (b:List UInt8):(Dk.mk b b.length).keep 0=b.length:=by
 rw[Dk.keep];dsimp only;omega
def yXd {M:List VM} (h:M.length=1):∃m:zTf,vC 0 M=[m]/\m.seq=1:=by
 obtain⟨v,rfl⟩:∃v,M=[v]:=List.length_eq_one_iff.1 h;exact⟨_,rfl,rfl⟩
def yTt (p:Prd) (b:List UInt8):x4 p [jC 2 b]=(es0 p).ed p 2 b:=rfl
def yCu (p:Prd) (h:known24C.cnd p):zXp p:=by
 have h:p=three 1:=h;obtain⟨b,hb⟩:∃b,kb24.enc=b:=⟨_,rfl⟩
 have hbl:b.length=37:=by rw[<- hb];exact yHa
 have hrd:(zS 2 b).2=0:=by rw[<- hb];exact yKd
 have hO1:((es0 p).X p 2 b).O.length=1:=by rw[<- hb,h];exact yRy
 have hM1:((es0 p).M p 2 b).length=1:=by rw[<- hb,h];exact ySp
 have hc:p.check=0:=by rw[h];exact zHr
 have hs:p.small:=by rw[h];exact zHv 1
 obtain⟨p1,p2,p3,p4,p5,p6,p7,p8,p9,p10,p11⟩:sb p.code=sb [67,76]/\iE p.months=iE [320,321,323]/\p.tick=5/\p.low=0/\p.high=1000/\p.wide=200/\p.rule=1/\p.top=4/\p.least=2/\p.part=40/\iE p.settle=iE [500,505,490]:=by
  rw[h];exact(rF7 (rF3 rfl))
 clear h;have hB0:BOk p (es0 p).B:=BOk.new hc hs;have hl44:(yW (jC 2 b)).length=44:=by rw[wT,jC,y1d,hbl]
 have hq1:((es0 p).ed p 2 b).q=1:=by
  show(0:Int)+(((es0 p).M p 2 b).length:Int)=1;rw[hM1];rfl
 obtain⟨m,hN,hm⟩:=yXd hM1;unfold zXp sH sM tE mB xB vD gF kV gH kO dL dP dE dI;refine⟨1,rfl,trivial,λ_ _=>⟨(),trivial,λ_ _=>⟨⟨p,0,[],[]⟩,p1,p2,p3,p4,p5,p6,p7,p8,p9,p10,p11,rfl,⟨⟨hc,hs⟩,⟨⟨λl hl=>(by cases hl),rfl,y1y rfl⟩,y1u _,y1y rfl⟩,λr hr=>(by cases hr),y1y rfl⟩,λo ho=>⟨kb24,rF8 ⟨rfl,⟨rfl,yCh⟩,λ_ _=>⟨⟨es0 p,o,⟨[],0⟩,[],[]⟩,rF8 (rF8 ⟨rfl,λj=>j.o.Rep p ((es0 p).ed p 2 b).B ((es0 p).ed p 2 b).U/\j.x=(es0 p).ed p 2 b/\j.d=⟨yW (jC 2 b),0⟩/\j.O=((es0 p).X p 2 b).O/\j.N=[m],?_,?_⟩)⟩⟩⟩⟩⟩⟩
 ·exact⟨⟨o,es0 p,p,⟨[],0⟩,2,b⟩,rfl,by rw[hb],rF8 (rF8 ⟨rfl,⟨⟨ho,hB0⟩,Z9,⟨y1y rfl,y1y rfl⟩,⟨y4s _,y1y rfl⟩,y1y rfl,by dsimp only;rw[hbl];decide⟩,λo2 hb=>absurd hrd hb.1,λo2 hg=>⟨⟨(es0 p).ed p 2 b,o2,⟨yW (jC 2 b),0⟩,((es0 p).X p 2 b).O,[m]⟩,rF8 (rF6 (rF3 ⟨rfl,by rw[<- hN];rfl,⟨hg.2,rF3 rfl⟩,k0q⟩))⟩⟩)⟩
 rintro⟨x1,o1,d1,O1,N1⟩ ⟨hR1,rfl,rfl,rfl,rfl⟩;have hB1:BOk p ((es0 p).ed p 2 b).B:=zKt (ho.s.wf hB0) _ _ _ _;have hR:((es0 p).ed p 2 b).R.length=1:=rfl;have hall:=yTt p b;generalize (es0 p).ed p 2 b=x at*;refine⟨⟨x,o1,⟨yW (jC 2 b),0⟩,[],[]⟩,rfl,rfl,rfl,rfl,rfl,rfl,rfl,rfl,rfl,rfl,rfl,rfl,rfl,rfl,rfl,rfl,rfl,λj=>j.o.Rep p x.B x.U/\j.x=x/\j.d=⟨yW (jC 2 b),0⟩/\j.O.length=1/\j.N=[],?_,?_⟩
 ·exact⟨y1y rfl,⟨o1,x,p,⟨yW (jC 2 b),0⟩,2,yRe⟩,rF8 (rF7 (rF3 ⟨rfl,⟨⟨hR1,hB1⟩,y1y rfl,⟨y1y rfl,y1y rfl⟩,⟨Z9,Z9⟩,Z9,by dsimp only;rw[hl44];decide⟩,λo2 hb=>⟨⟨x,o2,⟨yW (jC 2 b),0⟩,[(2,⟨2,0,0,0,0,0,0,(zS 2 yRe).2⟩)],[]⟩,rF8 (rF7 (rF3 ⟨rfl,⟨hb.2,rF3 rfl⟩,k0q⟩))⟩,λo2 hg=>absurd hg.1 (by rw[yKe];decide)⟩))⟩
 rintro⟨x2,o2,d2,O2,N2⟩ ⟨hR2,rfl,rfl,hO2,rfl⟩;have hsm:=(aB (hR2.s.wf hB1)).2.2;have hrk:yGs (jC 2 b):=⟨by simp[jC],hrd⟩
 have hfs:fsB [jC 2 b]=yW (jC 2 b):=y1t _;refine⟨⟨p,yU p x2.B,x2.q,x2.R⟩,rF7 (rF3 ⟨rfl,hsm,λ_ _=>⟨⟨(v8 (yU p x2.B) x2.q).toArray⟩,rfl,mJ _,⟨⟨yW (jC 2 b),0⟩,x2.R.length,[]⟩,rfl,rfl,⟨y2a _,Z9⟩,λ_ _=>⟨⟨⟨yW (jC 2 b),(yW (jC 2 b)).length⟩,0⟩,rfl,rfl,⟨y1u _,Z9⟩,λ_ _=>⟨⟨p,(yW (jC 2 b)).length,[jC 2 b],[]⟩,p1,p2,p3,p4,p5,p6,p7,p8,p9,p10,p11,?_,⟨⟨hc,hs⟩,⟨⟨λl hl=> ?_,rfl,?_⟩,?_,?_⟩,λr hr=> ?_,y1y rfl⟩,λo3 ho3=> ?_⟩⟩⟩⟩)⟩
 ·dsimp only;rw[yVv,y3w,EpI.j,JoI.d,hfs,y1t]
 ·rw[y2l]at hl;subst hl;rw[jC,y1d,hbl];decide
 ·dsimp only;rw[hfs,hl44];decide
 ·dsimp only;rw[hfs,y1t];exact y1u _
 ·dsimp only;rw[hfs,y1t,hl44];decide
 ·rw[y2l]at hr;subst hr;exact hrk
 dsimp only at ho3 ⊢;rw[hall]at ho3 ⊢;refine Cv.cnd.mk (λ_=>Cv.cnd.mk (λ_=>⟨⟨y1y rfl,y1y rfl⟩,m.seq,rfl,Cv.cnd.mk (λ_=>Cv.cnd.mk (λ_=>Cv.cnd.mk (λ_=>Cv.cnd.mk (λ_=>⟨⟨p,yU p x2.B,x2.q,x2.R⟩,rF7 (rF3 ⟨rfl,hsm,λ_ _=>⟨⟨(v8 (yU p x2.B) x2.q).toArray⟩,rfl,mJ _,Cv.cnd.mk (λ_=>⟨(),?_,trivial⟩) (λe=>absurd e (by simp))⟩⟩)⟩) (λe=>absurd e (by simp[hR]))) (λe=>absurd e (by simp))) (λe=>absurd e (by simp[hO2]))) (λe=>absurd e (by simp[hm]))⟩) (λe=>absurd e (by simp))) (λe=>absurd e (by simp[hO1]));dsimp only;rw[hq1];rfl
def known24_ok:known24C.ok Tryz.prog 35:=okw mixed (gokc three_ok (gokc dnew_ok (gokc eop_ok (gokc r6enc_ok (gokc edo_ok (gokc esn_ok (gokc yLv (gokc yIa gok0)))))))) 1 (λp=>yAw p) (λ_=>[]) [] Tryz.func35 yCu
def zLx:V:= .d (.v (.pointer none))
structure PdI where
 p:Prd
 d:Dk
def eopNC:Con:=zR Prd (λp=>[mD p,zLx]) (λ_=>[]) (λp=>p.check=0/\p.small) (λ_=> .tup [zLx,zA 1]) (λ_=>[])
def eopFC:Con:=zR Prd (λp=>[mD p,.nm 0 0]) (λ_=>[.gone]) (λp=>p.check≠0/\p.small) (λp=> .tup [zLx,zA p.check]) (λ_=>[.gone])
def scanBC:Con:=zR (List UInt8) (λb=>[roV 1 (bE b)]) (λ_=>[]) (λb=>b.length<=1048576/\(fF b).2.2=14) (λ_=> .tup [zIh,zA 0,zA 14]) (λ_=>[])
def ySx:List SAnn:=[{ι:=Unit,slots:=λ_=>[(5,zIh),(6,zA 0)],rows:=λ_=>[]}]
def jopBC:Con:=zR Dk (λ_=>[.nm 0 0]) (λd=>[DkR d]) (λd=>d.ok/\(fF d.b).2.2=14) (λ_=> .tup [zLx,zIh,zA 14]) (λd=>[DkR d])
def eopBC:Con:=zR PdI (λi=>[mD i.p,.nm 0 0]) (λi=>[DkR i.d]) (λi=>(i.p.check=0/\i.p.small)/\i.d.ok/\(fF i.d.b).2.2=14) (λ_=> .tup [zLx,zA 14]) (λi=>[DkR i.d])
def eopEC:Con:=zR Prd (λp=>[mD p,.nm 0 0]) (λ_=>[DkR ⟨yW [],0⟩]) (λp=>p.check=0/\p.small) (λ_=> .tup [zLx,zA 12]) (λ_=>[DkR ⟨yW [],0⟩])
def yYl (p:Prd):List SAnn:=yVj ⟨p,0,[[]],[]⟩
def dappFC:Con:=zR DbI (λi=>[.nm 0 0,roV 1 (bE i.l)]) (λi=>[DkR i.d]) (λi=>i.d.b.length<=1048576/\i.l.length<=1048576/\1048576<i.d.b.length+i.l.length) (λ_=>zA 13) (λi=>[DkR i.d])
def jappFC:Con:=zR JaI (λi=>[.nm 0 0,roV 1 (bE i.l)]) (λi=>[jnR 1 i.n,DkR i.d]) (λi=>i.l.length<=255/\i.d.b.length<=1048576/\1048576<i.d.b.length+i.l.length+6) (λ_=>zA 13) (λi=>[jnR 1 i.n,DkR i.d])
@[reducible] def EoI.full (i:EoI):Prop:=(i.o.Rep i.p i.x.B i.x.U/\BOk i.p i.x.B)/\i.b.length<=254/\(zS i.s i.b).2=0/\i.d.b.length<=1048576/\1048576<i.d.b.length+i.b.length+7
def edoFC:Con:=zR EoI (λi=>[.nm 0 0,zA i.s,roV 1 (bE i.b)]) (λi=>zLe i.p i.x i.o i.d) (λi=>i.full) (λ_=> .agg [.own 8,zIh]) (λi=>zLe i.p i.x i.o i.d++[zTi [(i.s,⟨2,0,0,0,0,0,0,13⟩)]])
end Sx
