/- Texts of ours. No condition. -/
import Derived.Test.YthkofaanekmpmaaGreatW12
set_option linter.all false
open List renaming map->aa,take->ab,drop->ac,length->ae
open Sx.AObj renaming fro->af,cells->ag,own->aj
open Bool renaming false->ak,true->am
open Int renaming toNat->ao
open Go.IntKind renaming i64->ap,u8->aq
open Option renaming some->ar
namespace Sx
set_option maxRecDepth 100000
open Go Cv Go.Proofs
def zIt (a:Nat) (b:Nat) (c:BsI) (d:Nat->Prop) (e:Nat->Nat):Prop:=(↑a:Int)=ap.wrap ((↑b:Int)+1)/\dh ((zV c.l c.s).fst.price)/\dh ((zV c.l c.s).fst.qty)/\dh ((zV c.l c.s).fst.a.inst)/\dh ((zV c.l c.s).fst.a.side)/\dh ((zV c.l c.s).fst.b.inst)/\dh ((zV c.l c.s).fst.b.side)/\d a/\e a<e b/\True
def qY (a:Nat) (b:BsI):=(dN (ab a b.l) (zV b.l b.s).fst)
def ySb (i:BsI):Prop:=
 ∃(a:BsI),aa zJ a.l=aa zJ i.l/\a.s=i.s/\(dV a)/\∀(b:Unit),True->cnd (!(zV a.l a.s).snd) (∃(c:Unit),(qN i.l i.s).fst.price=0/\(qN i.l i.s).fst.qty=0/\(qN i.l i.s).fst.count=0/\(qN i.l i.s).snd=ak/\True) (∃(c:Nat),(qY c i).fst=(zV a.l a.s).fst.qty/\(qY c i).snd=0/\(↑c:Int)=0/\(zV i.l i.s).fst.price=(zV a.l a.s).fst.price/\(zV i.l i.s).fst.qty=(zV a.l a.s).fst.qty/\(zV i.l i.s).fst.a.inst=(zV a.l a.s).fst.a.inst/\(zV i.l i.s).fst.a.side=(zV a.l a.s).fst.a.side/\(zV i.l i.s).fst.b.inst=(zV a.l a.s).fst.b.inst/\(zV i.l i.s).fst.b.side=(zV a.l a.s).fst.b.side/\∃(d:Nat->Prop),∃(e:Nat->Nat),d c/\∀(f:Nat),d f->cnd (decide ((↑f:Int)<(v8 i))) ((0<=(↑f:Int)/\(↑f:Int)<(v8 i))/\∃(g:Int),∃(h:Int),∃(j:Int),∃(k:Int),∃(l:Int),∃(m:Int),zE (aa zJ i.l) (↑f:Int).toNat 0 6=ar [dI g,dI h,dI j,dI k,dI l,dI m]/\cnd (g==(zV i.l i.s).fst.price) (∃(n:Nat),((qY n i).fst=if h>(qY f i).fst then h else(qY f i).fst)/\(qY n i).snd=ap.wrap ((qY f i).snd+1)/\zIt n f i d e) (∃(n:Nat),(qY n i).fst=(qY f i).fst/\(qY n i).snd=(qY f i).snd/\zIt n f i d e)) (∃(g:Unit),(qN i.l i.s).fst.price=(zV i.l i.s).fst.price/\(qN i.l i.s).fst.qty=(qY f i).fst/\(qN i.l i.s).fst.count=(qY f i).snd/\(qN i.l i.s).snd=am/\True))
def yIg (i:DtI):Prop:=
 True/\((aa yN i.d.out).length+1)*(56:Nat)<=(140737488355328:Nat)/\∃(a:Unit),i.d.seq+(↑(1:Nat):Int)=ap.wrap (i.d.seq+1)/\aa yN (i.d.out++wT i.d.seq [i.m])=aa yN i.d.out++[[dI (ap.wrap (i.d.seq+1)),dI (↑i.m.inst:Int),dI i.m.side,dI i.m.l.price,dI i.m.l.qty,dI i.m.l.count,D.v (.bool i.m.imp)]]/\True
def jB (a:DsI) (b:DsJ):=(a.d.out++wT a.d.seq b.M)
def pW (a:DsI):Prop:=ag [V.own 4,V.d (dI a.b.imp.price),V.d (dI a.b.imp.qty),V.d (dI a.b.imp.count),V.d (D.v (.bool a.b.has))] 43=ag [V.own 4,V.d (dI a.b.imp.price),V.d (dI a.b.imp.qty),V.d (dI a.b.imp.count),V.d (D.v (.bool a.b.has))] 43/\dh (af 3 (aa lvE a.b.levels))/\dh (ag [V.own 2,V.d (dI a.a.imp.price),V.d (dI a.a.imp.qty),V.d (dI a.a.imp.count),V.d (D.v (.bool a.a.has))] 43)/\dh (af 3 (aa lvE a.a.levels))
def zJl (a:DsI) (b:DsJ):Prop:=ag [V.d (dI (a.d.seq+(↑b.M.length:Int))),V.own 7] (120:TypeId)=ag [V.d (dI (a.d.seq+(↑b.M.length:Int))),V.own 7] (120:TypeId)/\dh (aj zVl 7 (aa yN (jB a b)))/\pW a
def nW (a:Bool->Prop) (b:Bool) (c:DsI) (d:DsJ):Prop:=a b/\zJl c d
def zJq (a:DsI) (b:Int) (c:Int) (d:Bool->Prop) (e:DsJ):Prop:=∃(f:I3),f.side=a.s/\f.x=b/\f.y=c/\True/\∀(g:Unit),True->∃(h:Bool),h=bN f.side f.x f.y/\nW d h a e
def zAw (a:Bool->Prop) (b:DsI) (c:DsJ):Prop:=∃(d:Bool),d=am/\nW a d b c
def zIa (a:Lv->Prop) (b:Lv) (c:DsI) (d:DsJ):Prop:=a b/\zJl c d
def zJk (a:DsJ->Prop) (b:DsJ) (c:DsJ->Nat) (d:DsJ) (e:DsI):Prop:=a b/\c b<c d/\pW e
def zJh (a:DsI) (b:DsJ) (c:DtI) (d:DsJ->Prop) (e:DsJ->Nat) (f:DsJ):Prop:=a.d.seq+(↑b.M.length:Int)=c.d.seq+(↑(1:Nat):Int)/\aa yN (jB a b)=aa yN (c.d.out++wT c.d.seq [c.m])/\zJk d b e f a
def zIh (a:Dfr->Prop) (b:Dfr) (c:DsI):Prop:=a b/\pW c
def mM (a:DtI):Prop:=(-4611686018427387904)<=a.d.seq/\a.d.seq+(↑(1:Nat):Int)<=4611686018427387904/\a.d.out.length+(1:Nat)<=(1000000000:Nat)
def cB (a:DsJ):=(↑(aa lvE a.y).length:Int)
def cJ (a:DsJ):Prop:=(0:Int)<=(0:Int)/\0<(cB a)
def gV (a:DsJ):=(↑(aa lvE a.x).length:Int)
def aZ (a:DsJ):Prop:=(0:Int)<=(0:Int)/\0<(gV a)
def cK (a:DsI):=(a.d.out++wT a.d.seq (wK a.n a.s a.a a.b))
def dY (a:DsI):=(↑(wK a.n a.s a.a a.b).length:Int)
def yIu (i:DsI):Prop:=
 ∃(a:DsJ),aa lvE a.x=aa lvE i.a.levels/\aa lvE a.y=aa lvE i.b.levels/\i.d.seq+(↑a.M.length:Int)=i.d.seq/\aa yN (jB i a)=aa yN i.d.out/\∃(b:DsJ->Prop),∃(c:DsJ->Nat),b a/\∀(d:DsJ),b d->cnd (decide (ap.wrap ((gV d)+(cB d))>0)) (∃(e:Bool),∃(f:Bool->Prop),cnd ((cB d)==0) (zAw f i d) (cnd (decide ((gV d)>0)) ((aZ d)/\∃(g:Int),zE (aa lvE d.x) (ao 0) 0 1=ar [dI g]/\(cJ d)/\∃(h:Int),zE (aa lvE d.y) (ao 0) 0 1=ar [dI h]/\zJq i g h f d) (∃(g:Bool),g=ak/\nW f g i d))/\∀(g:Bool),f g->cnd g ((aZ d)/\∃(h:Int),zE (aa lvE d.x) (ao 0) 0 1=ar [dI h]/\∃(j:DtI),(↑j.m.inst:Int)=(↑i.n:Int)/\j.m.side=i.s/\j.m.l.price=h/\j.m.l.qty=0/\j.m.l.count=0/\j.m.imp=ak/\j.d.seq=i.d.seq+(↑d.M.length:Int)/\aa yN j.d.out=aa yN (jB i d)/\(mM j)/\∀(k:Unit),True->((0:Int)<=(1:Int)/\1<=(gV d))/\∃(l:DsJ),aa lvE l.x=ac (ao 1) (aa lvE d.x)/\aa lvE l.y=aa lvE d.y/\zJh i l j b c d) (∃(h:Bool),∃(j:Bool->Prop),cnd ((gV d)==0) (zAw j i d) ((cJ d)/\∃(k:Int),zE (aa lvE d.y) (ao 0) 0 1=ar [dI k]/\(aZ d)/\∃(l:Int),zE (aa lvE d.x) (ao 0) 0 1=ar [dI l]/\zJq i k l j d)/\∀(k:Bool),j k->cnd k ((cJ d)/\∃(l:Int),∃(m:Int),∃(n:Int),zE (aa lvE d.y) (ao 0) 0 3=ar [dI l,dI m,dI n]/\∃(p:DtI),(↑p.m.inst:Int)=(↑i.n:Int)/\p.m.side=i.s/\p.m.l.price=l/\p.m.l.qty=m/\p.m.l.count=n/\p.m.imp=ak/\p.d.seq=i.d.seq+(↑d.M.length:Int)/\aa yN p.d.out=aa yN (jB i d)/\(mM p)/\∀(q:Unit),True->((0:Int)<=(1:Int)/\1<=(cB d))/\∃(r:DsJ),aa lvE r.x=aa lvE d.x/\aa lvE r.y=ac (ao 1) (aa lvE d.y)/\zJh i r p b c d) (∃(l:Dfr),l.seq=i.d.seq+(↑d.M.length:Int)/\aa yN l.out=aa yN (jB i d)/\∃(m:Dfr->Prop),(∃(n:Bool),∃(p:Bool->Prop),((aZ d)/\∃(q:Int),∃(r:Int),∃(s:Int),zE (aa lvE d.x) (ao 0) 0 3=ar [dI q,dI r,dI s]/\(cJ d)/\∃(t:Int),∃(u:Int),∃(v:Int),zE (aa lvE d.y) (ao 0) 0 3=ar [dI t,dI u,dI v]/\∃(w:Bool),w=!(q==t && (r==u && (s==v && am)))/\p w/\dh (ag [V.d (dI l.seq),V.own (none.getD ((2:Nat)+(1:Nat)+(1:Nat)+(1:Nat)+(1:Nat)+(2:Nat)+(0:Nat)+(0:Nat)+nat_lit 1))] (120:TypeId))/\dh (aj zVl 7 (aa yN l.out))/\pW i)/\∀(q:Bool),p q->cnd q ((cJ d)/\∃(r:Int),∃(s:Int),∃(t:Int),zE (aa lvE d.y) (ao 0) 0 3=ar [dI r,dI s,dI t]/\∃(u:DtI),(↑u.m.inst:Int)=(↑i.n:Int)/\u.m.side=i.s/\u.m.l.price=r/\u.m.l.qty=s/\u.m.l.count=t/\u.m.imp=ak/\u.d.seq=l.seq/\aa yN u.d.out=aa yN l.out/\(mM u)/\∀(v:Unit),True->∃(w:Dfr),w.seq=u.d.seq+(↑(1:Nat):Int)/\aa yN w.out=aa yN (u.d.out++wT u.d.seq [u.m])/\zIh m w i) (∃(r:Dfr),r.seq=l.seq/\aa yN r.out=aa yN l.out/\zIh m r i))/\∀(n:Dfr),m n->((0:Int)<=(1:Int)/\1<=(gV d))/\((0:Int)<=(1:Int)/\1<=(cB d))/\∃(p:DsJ),aa lvE p.x=ac (ao 1) (aa lvE d.x)/\aa lvE p.y=ac (ao 1) (aa lvE d.y)/\i.d.seq+(↑p.M.length:Int)=n.seq/\aa yN (jB i p)=aa yN n.out/\zJk b p c d i))) (∃(e:Bool),∃(f:Bool->Prop),cnd (!(i.a.imp.price==i.b.imp.price && (i.a.imp.qty==i.b.imp.qty && (i.a.imp.count==i.b.imp.count && am)))) (zAw f i d) (∃(g:Bool),g=!i.a.has==i.b.has/\nW f g i d)/\∀(g:Bool),f g->cnd g (∃(h:Lv),h.price=i.b.imp.price/\h.qty=i.b.imp.qty/\h.count=i.b.imp.count/\∃(j:Lv->Prop),cnd (!i.b.has) (∃(k:Lv),k.price=0/\k.qty=0/\k.count=0/\zIa j k i d) (∃(k:Lv),k.price=h.price/\k.qty=h.qty/\k.count=h.count/\zIa j k i d)/\∀(k:Lv),j k->∃(l:DtI),(↑l.m.inst:Int)=(↑i.n:Int)/\l.m.side=i.s/\l.m.l.price=k.price/\l.m.l.qty=k.qty/\l.m.l.count=k.count/\l.m.imp=am/\l.d.seq=i.d.seq+(↑d.M.length:Int)/\aa yN l.d.out=aa yN (jB i d)/\(mM l)/\∀(m:Unit),True->∃(n:Unit),i.d.seq+(dY i)=l.d.seq+(↑(1:Nat):Int)/\aa yN (cK i)=aa yN (l.d.out++wT l.d.seq [l.m])/\True) (∃(h:Unit),i.d.seq+(dY i)=i.d.seq+(↑d.M.length:Int)/\aa yN (cK i)=aa yN (jB i d)/\True))
def zIr (a:DsI):Prop:=(-4611686018427387904)<=a.d.seq/\a.d.seq+(↑(a.a.levels.length+a.b.levels.length+1):Int)<=4611686018427387904/\a.d.out.length+(a.a.levels.length+a.b.levels.length+1)<=1000000000
def pS (a:DvI) (b:Nat):=([]++wT a.seq (j8 0 (ab b a.v) (ab b a.w)))
def zBn (a:Nat) (b:DvI):=(↑(j8 0 (ab a b.v) (ab a b.w)).length:Int)
def pY (a:DvI):=(↑(aa yG a.v).length:Int)
def yRy (i:DvI):Prop:=
 cnd ((pY i) !=(↑(aa yG i.w).length:Int)) (∃(a:Unit),aa yN (wT i.seq (j8 0 i.v i.w))=[]/\True) (∃(a:Nat),(↑a:Int)=0/\i.seq+(zBn a i)=i.seq/\aa yN (pS i a)=[]/\∃(b:Nat->Prop),∃(c:Nat->Nat),b a/\∀(d:Nat),b d->cnd (decide ((↑d:Int)<(pY i))) (((0:Int)<=(0:Int)/\0<(↑(2:Nat):Int))/\∃(e:Int),zE [[dI 1],[dI 2]] (ao 0) 0 1=ar [dI e]/\(0<=(↑d:Int)/\(↑d:Int)<(pY i))/\∃(f:List (List D)),∃(g:Int),∃(h:Int),∃(j:Int),∃(k:Bool),zE (aa yG i.v) (↑d:Int).toNat 0 5=ar [D.ro 3 f,dI g,dI h,dI j,D.v (.bool k)]/\(0<=(↑d:Int)/\(↑d:Int)<(↑(aa yG i.w).length:Int))/\∃(l:List (List D)),∃(m:Int),∃(n:Int),∃(p:Int),∃(q:Bool),zE (aa yG i.w) (↑d:Int).toNat 0 5=ar [D.ro 3 l,dI m,dI n,dI p,D.v (.bool q)]/\∃(r:DsI),(↑r.n:Int)=(↑d:Int)/\r.s=e/\aa lvE r.a.levels=f/\r.a.imp.price=g/\r.a.imp.qty=h/\r.a.imp.count=j/\r.a.has=k/\aa lvE r.b.levels=l/\r.b.imp.price=m/\r.b.imp.qty=n/\r.b.imp.count=p/\r.b.has=q/\r.d.seq=i.seq+(zBn d i)/\aa yN r.d.out=aa yN (pS i d)/\(zIr r)/\∀(s:Unit),True->(fH)/\∃(t:Int),zE [[dI 1],[dI 2]] (ap.wrap ((0:Int)+(1:Int))).toNat 0 1=ar [dI t]/\(0<=(↑d:Int)/\(↑d:Int)<(pY i))/\∃(u:List (List D)),∃(v:Int),∃(w:Int),∃(x:Int),∃(y:Bool),zE (aa yG i.v) (↑d:Int).toNat 5 5=ar [D.ro 3 u,dI v,dI w,dI x,D.v (.bool y)]/\(0<=(↑d:Int)/\(↑d:Int)<(↑(aa yG i.w).length:Int))/\∃(z:List (List D)),∃(a_1:Int),∃(a_2:Int),∃(a_3:Int),∃(a_4:Bool),zE (aa yG i.w) (↑d:Int).toNat 5 5=ar [D.ro 3 z,dI a_1,dI a_2,dI a_3,D.v (.bool a_4)]/\∃(a_5:DsI),(↑a_5.n:Int)=(↑d:Int)/\a_5.s=t/\aa lvE a_5.a.levels=u/\a_5.a.imp.price=v/\a_5.a.imp.qty=w/\a_5.a.imp.count=x/\a_5.a.has=y/\aa lvE a_5.b.levels=z/\a_5.b.imp.price=a_1/\a_5.b.imp.qty=a_2/\a_5.b.imp.count=a_3/\a_5.b.has=a_4/\a_5.d.seq=r.d.seq+(dY r)/\aa yN a_5.d.out=aa yN (cK r)/\(zIr a_5)/\∀(a_6:Unit),True->∃(a_7:Nat),(↑a_7:Int)=ap.wrap ((↑d:Int)+1)/\i.seq+(zBn a_7 i)=a_5.d.seq+(dY a_5)/\aa yN (pS i a_7)=aa yN (cK a_5)/\b a_7/\c a_7<c d/\dh (ag [V.own 2] 34)/\dh (af 10 (aa yG i.w))/\dh (ag [V.own 0] 34)/\dh (af 10 (aa yG i.v))) (∃(e:Unit),aa yN (wT i.seq (j8 0 i.v i.w))=aa yN (pS i d)/\True))
open Classical
def zPr {l:List Quote} {k:Nat} {q:Quote} (b:Quote) (h:l[k]? =ar q):dN (l.take (k+1)) b=if q.price=b.price then(if q.qty>(dN (l.take k) b).1 then q.qty else(dN (l.take k) b).1,(dN (l.take k) b).2+1)else dN (l.take k) b:=by
 rw[dN,y7c,h,y8w,xAp,y9m,List.foldl_nil];rfl
def zXa (b:Quote) (l:List Quote):∀k,k<=l.length->0<=(dN (l.take k) b).2/\(dN (l.take k) b).2<=k
 |0,_=>⟨by rw[xAh];exact y9h 0,by rw[xAh];exact y9h 0⟩
 |k+1,h=>by
  obtain⟨q,hq⟩:=yA (l:=l) (i:=k) oM;have:=zXa b l k oM;rw[zPr b hq];split
  ·dsimp only;constructor<;>omega
  ·constructor<;>omega
def yZl (i:BsI) (h:showC.cnd i):ySb i:=by
 obtain⟨hs,hl⟩:(i.s=1\/i.s=2)/\i.l.length<=1000000:=h;have hml:(i.l.map zJ).length=i.l.length:=y5u _;unfold ySb qY zIt dV v8 dI;rw[hml];refine⟨i,rfl,rfl,⟨hs,hl⟩,λ_ _=>Cv.cnd.mk (λc=> ?_) (λc=> ?_)⟩
 ·have e:qN i.l i.s=(⟨0,0,0⟩,ak):=by rw[qN,y5t (by simpa using c)]
  rw[e];exact⟨(),k0q⟩
 have e:qN i.l i.s=(⟨(zV i.l i.s).1.price,(dN i.l (zV i.l i.s).1).1,(dN i.l (zV i.l i.s).1).2⟩,am):=by rw[qN,y5v (by simpa using c)]
 rw[e];generalize (zV i.l i.s).1=b;refine⟨0,rF8 ⟨rfl,λk=>k<=i.l.length,λk=>i.l.length-k,y6z _,λk hk=>zH (λhlt=> ?_) (λhlt=> ?_)⟩⟩
 ·obtain⟨q,hq⟩:=yA (l:=i.l) (i:=k) oM;have st:=zPr b hq;have bd:=zXa b i.l k hk;have hk:k<=i.l.length:=hk;refine⟨⟨oM,oM⟩,q.price,q.qty,q.a.inst,q.a.side,q.b.inst,q.b.side,elA hq (by simp[zJ]) rfl,Cv.cnd.mk (λe=>⟨k+1,?_⟩) (λe=>⟨k+1,?_⟩)⟩
  ·rw[st,y5v (by simpa using e)];exact⟨rfl,by dsimp only;rw[w64 (by omega)],wjn oM,rF5 ⟨rfl,Z9,Z9,trivial⟩⟩
  ·rw[st,y5t (by simpa using e)];exact⟨rfl,rfl,wjn oM,rF5 ⟨rfl,Z9,Z9,trivial⟩⟩
 ·have hk:k<=i.l.length:=hk;obtain rfl:k=i.l.length:=by omega
  rw[y8s];exact⟨(),k0q⟩
def yPg:showC.ok Tryz.prog 108:=okw mixed (gokc zYd gok0) 0 (λ_=>[]) (λi=>yYm i) [] Tryz.func108 yZl
def zJb (p:Prd) (B:List (List zI)):(y3 p B).length=p.count:=by rw[y3,y5u,List.length_range]
def yAg (p:Prd) (B:List (List zI)) {j:Nat} (h:j<p.count):(y3 p B)[j]? =ar (zGa p B j 1,zGa p B j 2):=by
 rw[y3,y7k,xAb h];rfl
def yKi (a b:Lv):(a.price==b.price && (a.qty==b.qty && (a.count==b.count && am)))=decide (a=b):=by
 rw[xBv,decide_eq_true_iff];obtain⟨p,q,c⟩:=a;obtain⟨p2,q2,c2⟩:=b;simp
def yPm {v:Vw} {k:Nat} {b:Sd×Sd} (h:v[k]? =ar b):zE (v.map yG) k 0 10=ar [D.ro 3 (b.1.levels.map lvE),.v (.int .i64 b.1.imp.price),.v (.int .i64 b.1.imp.qty),.v (.int .i64 b.1.imp.count),.v (.bool b.1.has),.ro 3 (b.2.levels.map lvE),.v (.int .i64 b.2.imp.price),.v (.int .i64 b.2.imp.qty),.v (.int .i64 b.2.imp.count),.v (.bool b.2.has)]/\
 zE (v.map yG) k 0 5=ar [D.ro 3 (b.1.levels.map lvE),.v (.int .i64 b.1.imp.price),.v (.int .i64 b.1.imp.qty),.v (.int .i64 b.1.imp.count),.v (.bool b.1.has)]/\
 zE (v.map yG) k 5 5=ar [D.ro 3 (b.2.levels.map lvE),.v (.int .i64 b.2.imp.price),.v (.int .i64 b.2.imp.qty),.v (.int .i64 b.2.imp.count),.v (.bool b.2.has)]:=
 ⟨elA h (by simp[yG]) rfl,elA h (by simp[yG]) rfl,elA h (by simp[yG]) rfl⟩
def zOn (q:Int):∀(A B:List VM),wT q (A++B)=wT q A++wT (q+A.length) B
 |[],B=>by simp[wT]
 |a::A,B=>by
  rw[y7l,wT,wT,zOn,y5y,y7l];congr 3;omega
def zLt (d:Dfr) (A B:List VM):(d.add A).add B=d.add (A++B):=by
 rw[Dfr.add,Dfr.add,Dfr.add,zOn,y5s,y6a];congr 1;dsimp only;omega
def yUz (i:DtI) (h:dtellC.cnd i):yIg i:=by
 obtain⟨h1,h2,h3⟩:i.d.ok 1:=h;unfold yIg dI;have e:ap.wrap (i.d.seq+1)=i.d.seq+1:=w64 oM;rw[e];exact⟨trivial,by rw[y5u];omega,(),rfl,by rw[y6d];rfl,trivial⟩
def yFl:dtellC.ok Tryz.prog 124:=okw mixed gok0 0 (λ_=>[]) (λ_=>[]) [] Tryz.func124 yUz
def pV {s:Int}:∀(k:Nat) (X Y:List Lv),(vX s k X Y).length<=k
 |0,X,Y=>by rw[vX];exact y6p 0
 |k+1,[],[]=>by rw[vX];exact y6z _
 |k+1,x::X,[]=>by rw[vX,y5y];have:=pV (s:=s) k X [];omega
 |k+1,[],y::Y=>by rw[vX,y5y];have:=pV (s:=s) k [] Y;omega
 |k+1,x::X,y::Y=>by
  have h1:=pV (s:=s) k X (y::Y);have h2:=pV (s:=s) k (x::X) Y;have h3:=pV (s:=s) k X Y;rw[vX];split
  ·rw[y5y];omega
  split
  ·rw[y5y];omega
  rw[y5s];split
  ·simp only[y7n];omega
  ·simp only[y7v];omega
def z1y (n:Nat) (s:Int) (a b:Sd):(wK n s a b).length<=a.levels.length+b.levels.length+1:=by
 have:=pV (s:=s) (a.levels.length+b.levels.length) a.levels b.levels;rw[wK,y5s,y5u];split
 ·rw[y7v];omega
 ·simp only[y7n];omega
def zUj:∀(n j:Nat) {v w:Vw} {a b:Sd×Sd},v[j]? =ar a->w[j]? =ar b->j8 n (v.take (j+1)) (w.take (j+1))=j8 n (v.take j) (w.take j)++(wK (n+j) 1 a.1 b.1++wK (n+j) 2 a.2 b.2)
 |n,0,x::v,y::w,a,b,h1,h2=>by
  obtain rfl:x=a:=by simpa using h1
  obtain rfl:y=b:=by simpa using h2
  simp[j8]
 |n,j+1,x::v,y::w,a,b,h1,h2=>by
  have:=zUj (n+1) j (v:=v) (w:=w) (a:=a) (b:=b) (by simpa using h1) (by simpa using h2);rw[y7e,y7e,y7e,y7e,j8,j8,this,y6a,y6a,y6a,y9k n 1 j,xBb 1 j]
 |_,0,[],_,_,_,h1,_=>by simp at h1
 |_,j+1,[],_,_,_,h1,_=>by simp at h1
 |_,0,_::_,[],_,_,_,h2=>by simp at h2
 |_,j+1,_::_,[],_,_,_,h2=>by simp at h2
def zAe {v:Vw} {j:Nat} {a:Sd×Sd} (h:v[j]? =ar a):Vw.levs (v.take (j+1))=Vw.levs (v.take j)+(a.1.levels.length+a.2.levels.length):=by
 rw[Vw.levs,Vw.levs,y7c,h,y8w,y6d,xBx];simp
def z7l (v:Vw) (j:Nat):Vw.levs (v.take j)<=Vw.levs v:=by
 conv=>rhs;rw[<- y8a j v]
 rw[Vw.levs,Vw.levs,y6d,xBx];omega
def yHw (v w:Vw):∀j,j<=v.length->j<=w.length->(j8 0 (v.take j) (w.take j)).length<=Vw.levs (v.take j)+Vw.levs (w.take j)+2*j
 |0,_,_=>by rw[xAh,j8];exact y6z _;simp
 |j+1,h1,h2=>by
  obtain⟨a,ha⟩:=yA (l:=v) (i:=j) oM;obtain⟨b,hb⟩:=yA (l:=w) (i:=j) oM;have:=yHw v w j oM oM;have s1:=z1y (0+j) 1 a.1 b.1;have s2:=z1y (0+j) 2 a.2 b.2;rw[zUj 0 j ha hb,zAe ha,zAe hb,y5s,y5s];omega
def nX (q:Int):∀M:List VM,(wT q M).length=M.length
 |[]=>rfl
 |m::M=>by rw[wT,y5y,nX,y5y]
def tl1 (q:Int) (M:List VM) (m:VM):q+((M++[m]).length:Nat)=q+(M.length:Nat)+((1:Nat):Int):=by
 rw[y5s,y7v];omega
def tl2 (o:List eB) (q:Int) (M:List VM) (m:VM):(o++wT q (M++[m])).map yN=((o++wT q M)++wT (q+(M.length:Nat)) [m]).map yN:=by rw[zOn,y6a]
def lvx (x:Lv) (X:List Lv):zE ((x::X).map lvE) 0 0 1=ar [D.v (.int .i64 x.price)]/\zE ((x::X).map lvE) 0 0 3=ar [D.v (.int .i64 x.price),.v (.int .i64 x.qty),.v (.int .i64 x.count)]:=⟨rfl,rfl⟩
def yDe (s:Int) (k:Nat):vX s k [] []=[]:=by cases k<;>rw[vX]
def yTe (i:DsI) (h:dsideC.cnd i):yIu i:=by
 obtain⟨d,n,s,⟨al,ai,ah⟩,⟨bl,bi,bh⟩⟩:=i;obtain⟨h1,h2,h3⟩:Dfr.ok d (al.length+bl.length+1):=h;unfold yIu zIh zJh zJk zIa zAw zJq nW zJl pW jB dY cK aZ gV cJ cB mM dI;refine⟨⟨al,bl,[]⟩,rfl,rfl,by simp,by simp[wT],λj=>∃k,j.x.length+j.y.length<=k/\(vX s (al.length+bl.length) al bl).map (λl=>(⟨n,s,l,ak⟩:VM))=j.M++(vX s k j.x j.y).map (λl=>(⟨n,s,l,ak⟩:VM))/\k+j.M.length<=al.length+bl.length,λj=>j.x.length+j.y.length,⟨al.length+bl.length,y6p _,rfl,y6p _⟩,?_⟩;rintro⟨x,y,M⟩ ⟨k,hk,hM,hl⟩;dsimp only at hk hM hl ⊢;have hx:(x.map lvE).length=x.length:=y5u _;have hy:(y.map lvE).length=y.length:=y5u _;have ok1:Dfr.ok ⟨d.seq+(M.length:Nat),d.out++wT d.seq M⟩ 1:=⟨Z9,Z9,by dsimp only;rw[y5s,nX];omega⟩
 rw[hx,hy,w64 (by omega)];refine zH (λc=> ?_) (λc=> ?_)
 ·obtain⟨k',rfl⟩:∃k',k=k'+1:=⟨k-1,oM⟩
  rcases x with _|⟨a,X⟩
  ·rcases y with _|⟨b,Y⟩
   ·exact absurd c (by simp)
   refine⟨ak,λt=>t=ak,Cv.cnd.mk (λe=> ?_) (λ_=>Cv.cnd.mk (λe=>absurd e (by simp)) (λ_=>⟨ak,rfl,rfl,k0q⟩)),?_⟩
   ·exfalso;simp at e;omega
   rintro _ rfl;refine Cv.cnd.mk (λc=>absurd c Z8) (λ_=>⟨ak,λt=>t=am,Cv.cnd.mk (λ_=>⟨am,rfl,rfl,k0q⟩) (λe=>absurd e (by simp)),?_⟩);rintro _ rfl;refine Cv.cnd.mk (λ_=> ?_) (λc=>absurd c Z8);rw[y5y]at hk;refine⟨⟨Z8,by rw[y5y];omega⟩,b.price,b.qty,b.count,(lvx b Y).2,⟨_,⟨n,s,b,ak⟩⟩,rfl,rfl,rfl,rfl,rfl,rfl,rfl,rfl,ok1,λ_ _=>⟨⟨Z8,by rw[y5y];omega⟩,⟨[],Y,M++[⟨n,s,b,ak⟩]⟩,rfl,rfl,tl1 _ _ _,tl2 _ _ _ _,⟨k',Z9,?_,by dsimp only;rw[y5s,y7v];omega⟩,by dsimp only;rw[y5y];omega,k0q⟩⟩;rw[hM,vX,y6i,y6a];rfl
  rcases y with _|⟨b,Y⟩
  ·refine⟨ak,λt=>t=am,Cv.cnd.mk (λ_=>⟨am,rfl,rfl,k0q⟩) (λe=>absurd e (by simp)),?_⟩;rintro _ rfl;refine Cv.cnd.mk (λ_=> ?_) (λc=>absurd c Z8);rw[y5y]at hk;refine⟨⟨Z8,by rw[y5y];omega⟩,a.price,(lvx a X).1,⟨_,⟨n,s,⟨a.price,0,0⟩,ak⟩⟩,rfl,rfl,rfl,rfl,rfl,rfl,rfl,rfl,ok1,λ_ _=>⟨⟨Z8,by rw[y5y];omega⟩,⟨X,[],M++[⟨n,s,⟨a.price,0,0⟩,ak⟩]⟩,rfl,rfl,tl1 _ _ _,tl2 _ _ _ _,⟨k',by dsimp only;simp only[y7n]at hk ⊢;omega,?_,by dsimp only;rw[y5s,y7v];omega⟩,by dsimp only;rw[y5y];omega,k0q⟩⟩;rw[hM,vX,y6i,y6a];rfl
  rw[y5y,y5y]at hk;have la:(0:Int)<=0/\(0:Int)<((a::X).length:Nat):=⟨Z8,by rw[y5y];omega⟩
  have lb:(0:Int)<=0/\(0:Int)<((b::Y).length:Nat):=⟨Z8,by rw[y5y];omega⟩
  have la1:(0:Int)<=1/\(1:Int)<=((a::X).length:Nat):=⟨Z8,by rw[y5y];omega⟩
  have lb1:(0:Int)<=1/\(1:Int)<=((b::Y).length:Nat):=⟨Z8,by rw[y5y];omega⟩
  refine⟨ak,λt=>t=btr s a.price b.price,Cv.cnd.mk (λe=> ?_) (λ_=>Cv.cnd.mk (λ_=>⟨la,a.price,(lvx a X).1,lb,b.price,(lvx b Y).1,⟨s,a.price,b.price⟩,rfl,rfl,rfl,trivial,λ_ _=>⟨_,rfl,rfl,k0q⟩⟩) (λe=> ?_)),?_⟩
  ·exfalso;simp at e;omega
  ·exfalso;simp at e
  rintro _ rfl;refine Cv.cnd.mk (λc1=> ?_) (λc1=> ?_)
  ·refine⟨la,a.price,(lvx a X).1,⟨_,⟨n,s,⟨a.price,0,0⟩,ak⟩⟩,rfl,rfl,rfl,rfl,rfl,rfl,rfl,rfl,ok1,λ_ _=>⟨la1,⟨X,b::Y,M++[⟨n,s,⟨a.price,0,0⟩,ak⟩]⟩,rfl,rfl,tl1 _ _ _,tl2 _ _ _ _,⟨k',by dsimp only;rw[y5y];omega,?_,by dsimp only;rw[y5s,y7v];omega⟩,by dsimp only;rw[y5y,y5y];omega,k0q⟩⟩;rw[hM,vX,y5v c1,y6i,y6a];rfl
  have c1:¬btr s a.price b.price=am:=by simp[c1]
  refine⟨ak,λt=>t=btr s b.price a.price,Cv.cnd.mk (λe=> ?_) (λ_=>⟨lb,b.price,(lvx b Y).1,la,a.price,(lvx a X).1,⟨s,b.price,a.price⟩,rfl,rfl,rfl,trivial,λ_ _=>⟨_,rfl,rfl,k0q⟩⟩),?_⟩
  ·exfalso;simp at e;omega
  rintro _ rfl;refine Cv.cnd.mk (λc2=> ?_) (λc2=> ?_)
  ·refine⟨lb,b.price,b.qty,b.count,(lvx b Y).2,⟨_,⟨n,s,b,ak⟩⟩,rfl,rfl,rfl,rfl,rfl,rfl,rfl,rfl,ok1,λ_ _=>⟨lb1,⟨a::X,Y,M++[⟨n,s,b,ak⟩]⟩,rfl,rfl,tl1 _ _ _,tl2 _ _ _ _,⟨k',by dsimp only;rw[y5y];omega,?_,by dsimp only;rw[y5s,y7v];omega⟩,by dsimp only;rw[y5y,y5y];omega,k0q⟩⟩;rw[hM,vX,y5t c1,y5v c2,y6i,y6a];rfl
  have c2:¬btr s b.price a.price=am:=by simp[c2]
  by_cases hab:a=b
  ·refine⟨⟨_,_⟩,rfl,rfl,λD=>D=⟨d.seq+(M.length:Nat),d.out++wT d.seq M⟩,⟨ak,λt=>t=ak,⟨la,a.price,a.qty,a.count,(lvx a X).2,lb,b.price,b.qty,b.count,(lvx b Y).2,_,rfl,by rw[yKi,y6k hab];rfl,k0q⟩,?_⟩,?_⟩
   ·rintro _ rfl;exact Cv.cnd.mk (λc=>absurd c Z8) (λ_=>⟨_,rfl,rfl,rfl,k0q⟩)
   rintro _ rfl;refine⟨la1,lb1,⟨X,Y,M⟩,rF3 ⟨rfl,⟨k',Z9,?_,Z9⟩,by dsimp only;rw[y5y,y5y];omega,k0q⟩⟩;rw[hM,vX,y5t c1,y5t c2,y5v hab];rfl
  ·refine⟨⟨_,_⟩,rfl,rfl,λD=>D=Dfr.add ⟨d.seq+(M.length:Nat),d.out++wT d.seq M⟩ [⟨n,s,b,ak⟩],⟨ak,λt=>t=am,⟨la,a.price,a.qty,a.count,(lvx a X).2,lb,b.price,b.qty,b.count,(lvx b Y).2,_,rfl,by rw[yKi,y6g hab];rfl,k0q⟩,?_⟩,?_⟩
   ·rintro _ rfl;exact Cv.cnd.mk (λ_=>⟨lb,b.price,b.qty,b.count,(lvx b Y).2,⟨_,⟨n,s,b,ak⟩⟩,rfl,rfl,rfl,rfl,rfl,rfl,rfl,rfl,ok1,λ_ _=>⟨_,rfl,rfl,rfl,k0q⟩⟩) (λc=>absurd c Z8)
   rintro _ rfl;refine⟨la1,lb1,⟨X,Y,M++[⟨n,s,b,ak⟩]⟩,rfl,rfl,tl1 _ _ _,tl2 _ _ _ _,⟨k',Z9,?_,by dsimp only;rw[y5s,y7v];omega⟩,by dsimp only;rw[y5y,y5y];omega,k0q⟩;rw[hM,vX,y5t c1,y5t c2,y5t hab,y6d,y6a];rfl
 obtain rfl:x=[]:=y6u oM;obtain rfl:y=[]:=y6u oM;rw[yDe,y9l,y6r]at hM;rw[yKi];refine⟨ak,λt=>t=yEp ⟨al,ai,ah⟩ ⟨bl,bi,bh⟩,Cv.cnd.mk (λe=>⟨am,rfl,?_,k0q⟩) (λe=>⟨_,rfl,?_,k0q⟩),?_⟩
 ·have e:ai≠bi:=by simpa using e
  rw[yEp];simp[e]
 ·have e:ai=bi:=by simpa using e
  rw[yEp,e];cases ah<;>cases bh<;>simp
 rintro _ rfl;refine Cv.cnd.mk (λe=>⟨bi,rfl,rfl,rfl,λl=>l=yCe ⟨bl,bi,bh⟩,Cv.cnd.mk (λe2=>⟨lv0,rfl,rfl,rfl,?_,k0q⟩) (λe2=>⟨bi,rfl,rfl,rfl,?_,k0q⟩),?_⟩) (λe=> ?_)
 ·rw[yCe,y5t (by simpa using e2)]
 ·rw[yCe,y5v (by simpa using e2)]
 ·rintro _ rfl;have hsd:wK n s ⟨al,ai,ah⟩ ⟨bl,bi,bh⟩=M++[⟨n,s,yCe ⟨bl,bi,bh⟩,am⟩]:=by rw[wK,y5v e,hM]
  rw[hsd];exact⟨⟨_,⟨n,s,yCe ⟨bl,bi,bh⟩,am⟩⟩,rfl,rfl,rfl,rfl,rfl,rfl,rfl,rfl,ok1,λ_ _=>⟨(),tl1 _ _ _,tl2 _ _ _ _,trivial⟩⟩
 ·have hsd:wK n s ⟨al,ai,ah⟩ ⟨bl,bi,bh⟩=M:=by rw[wK,y5t (by simp[e]),hM,y6r]
  rw[hsd];exact⟨(),rfl,rfl,trivial⟩
def yFb:dsideC.ok Tryz.prog 62:=okw mixed (gokc yFl (gokc zSu gok0)) 0 (λ_=>yXh) (λi=>yVl i) [] Tryz.func62 yTe
def y0l (i:DvI) (h:diffC.cnd i):yRy i:=by
 obtain⟨hvw,⟨s1,s2⟩,l1,l2,hn⟩:i.v.length=i.w.length/\(-4000000000000000000<=i.seq/\i.seq<=4000000000000000000)/\Vw.levs i.v<=100000000/\Vw.levs i.w<=100000000/\i.v.length<=1000000:=h;have hmx:(i.v.map yG).length=i.v.length:=y5u _;have hmy:(i.w.map yG).length=i.w.length:=y5u _;unfold yRy fH dY cK pY zBn pS zIr dI;rw[hmx,hmy];refine Cv.cnd.mk (λc=> ?_) (λ_=> ?_)
 ·have c:(i.v.length:Int)≠i.w.length:=by simpa using c
  omega
 refine⟨0,rfl,by simp[j8],by simp[j8,wT],λj=>j<=i.v.length,λj=>i.v.length-j,y6z _,λj hj=>zH (λe=> ?_) (λe=> ?_)⟩
 ·have hj:j<=i.v.length:=hj;obtain⟨a,ha⟩:=yA (l:=i.v) (i:=j) oM;obtain⟨b,hb⟩:=yA (l:=i.w) (i:=j) oM;have hd:=yHw i.v i.w j hj oM;have t1:=zAe ha;have t2:=zAe hb;have u1:=z7l i.v (j+1);have u2:=z7l i.w (j+1);have q1:=z1y j 1 a.1 b.1;have hvt:=zUj 0 j ha hb;rw[y6t]at hvt;have bdv:(0:Int)<=j/\(j:Int)<(i.v.length:Nat):=⟨oM,e⟩
  have bdw:(0:Int)<=j/\(j:Int)<(i.w.length:Nat):=⟨oM,oM⟩
  obtain⟨D,hD⟩:∃D:Dfr,D=Dfr.add ⟨i.seq,[]⟩ (j8 0 (i.v.take j) (i.w.take j)):=⟨_,rfl⟩
  have hDs:D.seq=i.seq+((j8 0 (i.v.take j) (i.w.take j)).length:Nat):=by rw[hD];rfl
  have hDo:D.out=[]++wT i.seq (j8 0 (i.v.take j) (i.w.take j)):=by rw[hD];rfl
  have hDl:D.out.length=(j8 0 (i.v.take j) (i.w.take j)).length:=by rw[hDo,y8j,nX]
  refine⟨⟨Z8,Z8⟩,1,rfl,bdv,_,_,_,_,_,(yPm ha).2.1,bdw,_,_,_,_,_,(yPm hb).2.1,⟨D,j,1,a.1,b.1⟩,rfl,rfl,rfl,rfl,rfl,rfl,rfl,rfl,rfl,rfl,rfl,rfl,hDs,by rw[hDo],⟨Z9,Z9,Z9⟩,λ_ _=>⟨⟨Z8,Z8⟩,2,rfl,bdv,_,_,_,_,_,(yPm ha).2.2,bdw,_,_,_,_,_,(yPm hb).2.2,⟨D.add (wK j 1 a.1 b.1),j,2,a.2,b.2⟩,rfl,rfl,rfl,rfl,rfl,rfl,rfl,rfl,rfl,rfl,rfl,rfl,rfl,rfl,⟨by simp only[Dfr.add];omega,by simp only[Dfr.add];omega,by simp only[Dfr.add];rw[y5s,nX];omega⟩,λ_ _=>⟨j+1,wjn oM,?_,?_,Z9,Z9,k0q⟩⟩⟩
  ·show(Dfr.add ⟨i.seq,[]⟩ (j8 0 (i.v.take (j+1)) (i.w.take (j+1)))).seq=((D.add (wK j 1 a.1 b.1)).add (wK j 2 a.2 b.2)).seq;rw[hvt,hD,zLt,zLt]
  ·show(Dfr.add ⟨i.seq,[]⟩ (j8 0 (i.v.take (j+1)) (i.w.take (j+1)))).out.map yN=((D.add (wK j 1 a.1 b.1)).add (wK j 2 a.2 b.2)).out.map yN;rw[hvt,hD,zLt,zLt]
 ·have hj:j<=i.v.length:=hj;rw[y6f (by omega),y6f (by omega)];exact⟨(),rfl,trivial⟩
def yGd:diffC.ok Tryz.prog 18:=okw mixed (gokc yFb gok0) 1 (λ_=>[]) (λi=>yYz i) [] Tryz.func18 y0l
def yRd:∀{l:List zI} {v:Lv},v∈grp l->(1<=v.count/\v.count<=l.length)/\∃o∈l,o.price=v.price
 |[],v,h=>by cases h
 |o::l,v,h=>by
  have ih:∀v∈grp l,(1<=v.count/\v.count<=l.length)/\∃o∈l,o.price=v.price:=λv hv=>yRd hv
  rw[grp]at h;rw[y5y];split at h
  ·rw[y7g]at h;subst h;exact⟨Z9,o,y5z,rfl⟩
  ·rename_i w ws e;rw[e]at ih;have hw:=ih w y5z;split at h
   ·rename_i ep;rcases y6o.1 h with rfl|h
    ·exact⟨Z9,o,y5z,ep.symm⟩
    ·obtain⟨a,x,hx,hp⟩:=ih v (y6b _ h);exact⟨oM,x,y6b _ hx,hp⟩
   ·rcases y6o.1 h with rfl|h
    ·exact⟨Z9,o,y5z,rfl⟩
    ·obtain⟨a,x,hx,hp⟩:=ih v h;exact⟨oM,x,y6b _ hx,hp⟩
def z9k:∀l:List zI,(grp l).length<=l.length
 |[]=>y6p 0
 |o::l=>by
  have ih:=z9k l;rw[grp,y5y];cases e:grp l with
  |nil=>simp
  |cons w ws=>
   rw[e,y5y]at ih;dsimp only;split
   ·rw[y5y];omega
   ·rw[y5y,y5y];omega
def yTv {s:Int} {L:List Lv} (h:yMy s L) (hp:∀l∈L,1<=l.qty/\1<=l.count) (i:Nat):LvAt s L i:=by
 intro a ha;have hm:=hp a (y6e ha);refine⟨hm.1,hm.2,?_⟩;rintro j b rfl hb;obtain⟨h1,e1⟩:=y5x.1 ha;obtain⟨h2,e2⟩:=y5x.1 hb;have:=(List.pairwise_iff_getElem.1 h) j (j+1) h2 h1 (xAz j);rw[e1,e2]at this;exact this
def z9j {p:Prd} {B:List (List zI)} (h:BWf p B) {k:Nat} {L:List zI} (hL:B[k]? =ar L) {s:Int} (hs:s=1\/s=2):
 (∀i,LvAt s (gR L s) i)/\(gR L s).length<=255/\∀l∈gR L s,(1<=l.qty/\l.qty<=250000000)/\l.fit:=by
 obtain⟨h1,h2,h3⟩:=h.od k L hL;have hf:(L.filter λo=>decide (o.side=s)).length<=L.length:=y9f _ _;have hl:=z9k (L.filter λo=>decide (o.side=s));have hall:∀l∈gR L s,(1<=l.qty/\l.qty<=250000000)/\(1<=l.count/\l.count<=250)/\(-2000000<=l.price/\l.price<=2000000):=λl hm=>by
  have q:=z8u (λo ho=>h1 o (y7t.1 ho).1) hm;obtain⟨c,o,ho,e⟩:=yRd hm;have hp:=h.ok.prices hL o (y7t.1 ho).1;rw[e]at hp;exact⟨oM,oM,hp⟩
 refine⟨yTv (yPa h hL hs).1 λl hm=>⟨(hall l hm).1.1,(hall l hm).2.1.1⟩,by rw[gR];omega,λl hm=> ?_⟩;obtain⟨a,b,c⟩:=hall l hm;exact⟨a,⟨oM,oM⟩,⟨oM,oM⟩,⟨oM,oM⟩⟩
def zXg {p:Prd} {B:List (List zI)} (h:BWf p B) {k:Nat} {L:List zI} (hL:B[k]? =ar L) {s:Int} (hs:s=1\/s=2) (hb:(bestL L s).2=am):1<=(bestL L s).1.qty/\(bestL L s).1.qty<=250000000:=by
 have hm:(bestL L s).1∈gR L s:=by
  rw[bestL]at hb ⊢;split at hb
  ·cases hb
  ·rename_i v vs e;rw[e];exact y5z
 exact((z9j h hL hs).2.2 _ hm).1
def yRx {p:Prd} {B:List (List zI)} (h:BWf p B) {i s:Int} (hi:0<=i/\i<(B.map kD).length) (hs:s=1\/s=2) (hh:((B.map kD).getD i.toNat top0).has s=am):1<=((B.map kD).getD i.toNat top0).qty s/\((B.map kD).getD i.toNat top0).qty s<=250000000:=by
 rw[y5u]at hi;obtain⟨L,hL⟩:=yA (l:=B) (i:=i.toNat) oM;have e:(B.map kD).getD i.toNat top0=kD L:=by rw[y6c,y7k,hL];rfl
 rw[e]at hh ⊢;obtain⟨t1,t2,t3,t4,t5,t6⟩:=zLw L;rcases hs with rfl|rfl
 ·rw[Top.has,y5v rfl,t3]at hh;rw[Top.qty,y5v rfl,t2];exact zXg h hL (.inl rfl) hh
 ·rw[Top.has,y5t (by decide),t6]at hh;rw[Top.qty,y5t (by decide),t5];exact zXg h hL (.inr rfl) hh
def yOe {p:Prd} {B:List (List zI)} (h:BWf p B) {n s:Int} (hs:s=1\/s=2) {q:Quote} (hq:q∈x5 ⟨p,B.map kD,n⟩ s):(1<=q.qty/\q.qty<=250000000)/\(-2000000<=q.price/\q.price<=2000000):=by
 rw[x5,y7t]at hq;obtain⟨ok,-⟩:=z8a h.ok.pc (by rw[y5u,h.ok.bl]) hs hq.1;have qa:=yRx h ok.a ok.sa ok.ha;have qb:=yRx h ok.b ok.sb ok.hb;have hp:p.price n q.price=0:=by simpa using hq.2
 exact⟨by rw[ok.qty];omega,lD h.ok.pc hp⟩
def zIs (b:Quote) {M:Int}:∀(l:List Quote) (a:Int×Int),(∀q∈l,1<=q.qty/\q.qty<=M)->1<=a.1->a.1<=M->
 (1<=(l.foldl (λa q=>if q.price=b.price then(if q.qty>a.1 then q.qty else a.1,a.2+1)else a) a).1/\(l.foldl (λa q=>if q.price=b.price then(if q.qty>a.1 then q.qty else a.1,a.2+1)else a) a).1<=M)/\
 a.2<=(l.foldl (λa q=>if q.price=b.price then(if q.qty>a.1 then q.qty else a.1,a.2+1)else a) a).2/\(l.foldl (λa q=>if q.price=b.price then(if q.qty>a.1 then q.qty else a.1,a.2+1)else a) a).2<=a.2+l.length/\
 (b∈l->a.2+1<=(l.foldl (λa q=>if q.price=b.price then(if q.qty>a.1 then q.qty else a.1,a.2+1)else a) a).2)
 |[],a,_,h1,h2=>⟨⟨h1,h2⟩,y9h _,by simp,λh=>by cases h⟩
 |q::l,a,hq,h1,h2=>by
  have q0:=hq q y5z;rw[y9m,y5y];by_cases e:q.price=b.price
  ·rw[y5v e];obtain⟨r1,r2,r3,r4⟩:=zIs b (M:=M) l (if q.qty>a.1 then q.qty else a.1,a.2+1) (λx hx=>hq x (y6b _ hx)) (by dsimp only;split<;>omega) (by dsimp only;split<;>omega);dsimp only at r2 r3;exact⟨r1,oM,oM,λ_=>r2⟩
  ·rw[y5t e];obtain⟨r1,r2,r3,r4⟩:=zIs b (M:=M) l a (λx hx=>hq x (y6b _ hx)) h1 h2;refine⟨r1,r2,oM,λhb=> ?_⟩;rcases y6o.1 hb with rfl|hb
   ·exact absurd rfl e
   ·exact r4 hb
def yEe {l:List Quote} {s:Int} (hl:l.length<=100) (h:∀q∈l,(1<=q.qty/\q.qty<=250000000)/\(-2000000<=q.price/\q.price<=2000000)):
 ((qN l s).2=am->1<=(qN l s).1.qty/\1<=(qN l s).1.count)/\((qN l s).2=ak->(qN l s).1=⟨0,0,0⟩)/\(qN l s).1.fit:=by
 by_cases e:(zV l s).2=am
 ·have hm:=zHf e;have hb:=h _ hm;have:=zIs (zV l s).1 (M:=250000000) l ((zV l s).1.qty,0) (λq hq=>(h q hq).1) hb.1.1 hb.1.2;have e2:qN l s=(⟨(zV l s).1.price,(dN l (zV l s).1).1,(dN l (zV l s).1).2⟩,am):=by rw[qN,y5v e]
  rw[e2];rw[<- dN]at this;obtain⟨r1,r2,r3,r4⟩:=this;have r4:=r4 hm;dsimp only at r2 r3 r4 ⊢;exact⟨λ_=>⟨r1.1,oM⟩,λx=>(by cases x),⟨Z9,Z9⟩,⟨Z9,Z9⟩,⟨Z9,Z9⟩⟩
 ·have e2:qN l s=(⟨0,0,0⟩,ak):=by rw[qN,y5t e]
  rw[e2];exact⟨λx=>(by cases x),λ_=>rfl,⟨Z8,Z8⟩,⟨Z8,Z8⟩,⟨Z8,Z8⟩⟩
def mK {p:Prd} {B:List (List zI)} (h:BWf p B):bL (y3 p B)/\y0q (y3 p B)/\zBk (y3 p B):=by
 have hc:=xU p;have hlen:=zJb p B;have hside:∀k,k<p.count->∀s,s=1\/s=2->SdRight s (zGa p B k s)/\(zGa p B k s).fit:=λk hk s hs=>by
  obtain⟨L,hL⟩:=yA (l:=B) (i:=k) (by rw[h.ok.bl];exact hk);have e:B.getD k []=L:=zT hL;obtain⟨a1,a2,a3⟩:=z9j h hL hs;obtain⟨b1,b2,b3⟩:=yEe (s:=s) (zKa ⟨p,B.map kD,k⟩ s) (λq hq=>yOe h hs hq);rw[zGa,e];exact⟨⟨a1,a2,b1,b2⟩,λx hx=>(a3 x hx).2,b3⟩
 have hmem:∀b∈y3 p B,∃k,k<p.count/\b=(zGa p B k 1,zGa p B k 2):=λb hb=>by
  rw[y3]at hb;obtain⟨k,hk,rfl⟩:=y7f.1 hb;exact⟨k,y8x.1 hk,rfl⟩
 refine⟨⟨λb hb=> ?_,oM⟩,λb hb=> ?_,⟨oM,λb hb=> ?_⟩⟩
 ·obtain⟨k,hk,rfl⟩:=hmem b hb;exact⟨(hside k hk 1 (.inl rfl)).1,(hside k hk 2 (.inr rfl)).1⟩
 ·obtain⟨k,hk,rfl⟩:=hmem b hb;exact⟨(hside k hk 1 (.inl rfl)).2,(hside k hk 2 (.inr rfl)).2⟩
 ·obtain⟨k,hk,rfl⟩:=hmem b hb;have a:=(hside k hk 1 (.inl rfl)).1.2.1;have c:=(hside k hk 2 (.inr rfl)).1.2.1;dsimp only;omega
structure VwG (p:Prd) (v:Vw):Prop where
 r:bL v
 f:y0q v
 s:zBk v
 len:v.length=p.count
def zVo {p:Prd} {B:List (List zI)} (h:BWf p B):VwG p (y3 p B):=⟨(mK h).1,(mK h).2.1,(mK h).2.2,zJb p B⟩
def yFw {p:Prd} {v:Vw} (h:VwG p v):Vw.levs v<=510*v.length:=by
 have:∀{v:Vw},(∀b∈v,SdRight 1 b.1/\SdRight 2 b.2)->Vw.levs v<=510*v.length:=by
  intro v
  induction v with
  |nil=>intro _;exact y6p _
  |cons a v ih=>
   intro h;have ha:=h a y5z;have:=ih λb hb=>h b (y6b _ hb)
   have h1:=ha.1.2.1;have h2:=ha.2.2.1;rw[Vw.levs]at this ⊢;rw[y6i,y7j,y5y];omega
 exact this h.r.1
@[reducible] def y3k (v:Vw):AObj:= .own 44 10 (v.map yG)
@[reducible] def zJo (v:Vw):AObj:= .fro 10 (v.map yG)
def lookOC:Con:=con1 LkI (λi=>[prdV i.p,.nm 0 0]) (λi=>[zD i.s]) (λi=>i.s.Rep i.p i.B/\BOk i.p i.B) (λ_=> .agg [.own 1]) (λi=>[zD i.s,y3k (y3 i.p i.B)])
def gchkC:Con:=con1 SbI (λi=>[.nm 0 0,zA i.s,roV 1 (bE i.b)]) (λ_=>[.gone]) (λi=>i.b.length<=1099511627776) (λi=>zA (zR i.s i.b).2) (λ_=>[.gone])
def glookC:Con:=con1 Gt (λ_=>[.nm 0 0]) (λg=>GtO g) (λ_=>True) (λ_=> .nm 1 0) (λg=>GtO g)
def mlookC:Con:=con1 Mkt (λ_=>[.nm 0 0]) (λm=>zBt m) (λ_=>True) (λ_=> .nm 1 0) (λm=>zBt m)
structure En where
 p:Prd
 v:Vw
 q:Int
 R:List (List UInt8)
@[reducible] def zIc:Nat:=161
def enC (e:En) (r l:Nat):AObj:= .cells [sV e.p.code,.own 5,zA e.p.tick,zA e.p.low,zA e.p.high,zA e.p.wide,zA e.p.rule,zA e.p.top,zA e.p.least,zA e.p.part,.own 6,.nm 1 0,.nm 2 0,.own l,zA e.q,.own r] zIc
structure Es where
 B:List (List zI)
 U:List Int
 W:List (Int×Int)
 q:Int
 R:List (List UInt8)
def Es.en (x:Es) (p:Prd):En:=⟨p,y3 p x.B,x.q,x.R⟩
def vG (s:Int) (b:List UInt8):List UInt8:=lob s::b
def Es.X (x:Es) (p:Prd) (s:Int) (b:List UInt8):GtX:=rF p x.B x.U x.W s b
def Es.M (x:Es) (p:Prd) (s:Int) (b:List UInt8):List VM:=j8 0 (y3 p x.B) (y3 p (x.X p s b).B)
def Es.ed (x:Es) (p:Prd) (s:Int) (b:List UInt8):Es:=⟨(x.X p s b).B,(x.X p s b).U,(x.X p s b).W,x.q+(x.M p s b).length,x.R++[vG s b]⟩
structure EdI where
 o:Mkt
 x:Es
 p:Prd
 s:Int
 b:List UInt8
def EdI.g (i:EdI):Gt:=⟨i.o,i.x.W⟩
@[reducible] def EdI.ok (i:EdI):Prop:=(i.o.Rep i.p i.x.B i.x.U/\BOk i.p i.x.B)/\i.b.length<=1048576/\(0<=i.s/\i.s<8)/\(0<=i.x.q/\i.x.q<=1000000000000000000)/\i.x.R.length<=1000000
def EdI.Y (i:EdI):Es:=i.x.ed i.p i.s i.b
def EdI.N (i:EdI):List eB:=wT i.x.q (i.x.M i.p i.s i.b)
def EdI.O (i:EdI):List (Int×Rep):=(i.x.X i.p i.s i.b).O
def EdI.rows (i:EdI):List AObj:=[enC (i.x.en i.p) 4 7,.gone,GtR i.g,.gone,rcR i.x.R,.fro 1 (iE i.p.months),.fro 1 (iE i.p.settle),zJo (y3 i.p i.x.B)]
def edC:Con where
 ι:=EdI
 pat:=λi=>[.nm 0 0,zA i.s,roV 1 (bE i.b)]
 pre:=λi=>i.rows
 cnd:=λi=>i.ok
 alts:=λi=>[{o:=Mkt,res:=λ_=> .agg [.own 10,.own 11],post:=λo=>[enC (i.Y.en i.p) 8 9,.gone,GtR ⟨o,i.Y.W⟩,.gone,.gone,.fro 1 (iE i.p.months),.fro 1 (iE i.p.settle),.gone,rcR i.Y.R,zJo (y3 i.p i.Y.B),zUx i.O,yBs i.N],rel:=λo=>o.Rep i.p i.Y.B i.Y.U}]
def yIw (i:LkI):Prop:=
 ∃(a:Prd),sb a.code=sb i.p.code/\iE a.months=iE i.p.months/\a.tick=i.p.tick/\a.low=i.p.low/\a.high=i.p.high/\a.wide=i.p.wide/\a.rule=i.p.rule/\a.top=i.p.top/\a.least=i.p.least/\a.part=i.p.part/\iE a.settle=iE i.p.settle/\(yD a)/\∀(b:Unit),True->cnd (a.check !=0) (∃(c:Unit),dh (zD i.s)/\aa yG (y3 i.p i.B)=[]/\True) (∃(c:MSt),zD c=zD i.s/\(cG c)/\∀(d:Unit),True->∃(e:Prd),sb e.code=sb i.p.code/\iE e.months=iE i.p.months/\e.tick=i.p.tick/\e.low=i.p.low/\e.high=i.p.high/\e.wide=i.p.wide/\e.rule=i.p.rule/\e.top=i.p.top/\e.least=i.p.least/\e.part=i.p.part/\iE e.settle=iE i.p.settle/\(yD e)/\∀(f:Unit),True->∃(g:Nat),(↑g:Int)=0/\aa yG (ab g (y3 i.p i.B))=[]/\aa z5 (aa kD i.B)=aa z5 c.tops/\∃(h:Nat->Prop),∃(j:Nat->Nat),h g/\∀(k:Nat),h k->cnd (decide ((↑k:Int)<(↑e.count:Int))) (((0:Int)<=(0:Int)/\0<(↑(2:Nat):Int))/\∃(l:Int),zE [[dI 1],[dI 2]] (ao 0) 0 1=ar [dI l]/\∃(m:SoI),m.inst=(↑k:Int)/\zC m.sd=l/\zD m.s=zD c/\(m.s.Rep m.p m.B/\m.B.length<=1000)/\∀(n:Unit),True->∃(p:lG),sb p.i.p.code=sb i.p.code/\iE p.i.p.months=iE i.p.months/\p.i.p.tick=i.p.tick/\p.i.p.low=i.p.low/\p.i.p.high=i.p.high/\p.i.p.wide=i.p.wide/\p.i.p.rule=i.p.rule/\p.i.p.top=i.p.top/\p.i.p.least=i.p.least/\p.i.p.part=i.p.part/\iE p.i.p.settle=iE i.p.settle/\aa z5 p.i.tops=aa z5 (aa kD i.B)/\p.i.inst=(↑k:Int)/\zC p.s=l/\(kM p)/\∀(q:Unit),True->∃(r:BsI),aa zJ r.l=aa zJ (x5 p.i (zC p.s))/\r.s=l/\(dV r)/\∀(s:Unit),True->(fH)/\∃(t:Int),zE [[dI 1],[dI 2]] (ap.wrap ((0:Int)+(1:Int))).toNat 0 1=ar [dI t]/\∃(u:SoI),u.inst=(↑k:Int)/\zC u.sd=t/\zD u.s=zD m.s/\(u.s.Rep u.p u.B/\u.B.length<=1000)/\∀(v:Unit),True->∃(w:lG),sb w.i.p.code=sb i.p.code/\iE w.i.p.months=iE i.p.months/\w.i.p.tick=i.p.tick/\w.i.p.low=i.p.low/\w.i.p.high=i.p.high/\w.i.p.wide=i.p.wide/\w.i.p.rule=i.p.rule/\w.i.p.top=i.p.top/\w.i.p.least=i.p.least/\w.i.p.part=i.p.part/\iE w.i.p.settle=iE i.p.settle/\aa z5 w.i.tops=aa z5 (aa kD i.B)/\w.i.inst=(↑k:Int)/\zC w.s=t/\(kM w)/\∀(x:Unit),True->∃(y:BsI),aa zJ y.l=aa zJ (x5 w.i (zC w.s))/\y.s=t/\(dV y)/\∀(z:Unit),True->((aa yG (ab k (y3 i.p i.B))).length+1)*(112:Nat)<=(140737488355328:Nat)/\∃(a_1:Nat),(↑a_1:Int)=ap.wrap ((↑k:Int)+1)/\aa yG (ab a_1 (y3 i.p i.B))=aa yG (ab k (y3 i.p i.B))++[[D.ro 3 (aa lvE (aG m)),dI ((qN r.l r.s).fst.price),dI ((qN r.l r.s).fst.qty),dI ((qN r.l r.s).fst.count),D.v (.bool (qN r.l r.s).snd),D.ro 3 (aa lvE (aG u)),dI ((qN y.l y.s).fst.price),dI ((qN y.l y.s).fst.qty),dI ((qN y.l y.s).fst.count),D.v (.bool (qN y.l y.s).snd)]]/\dh (af 6 (aa z5 (aa kD i.B)))/\h a_1/\j a_1<j k/\zD u.s=zD c/\dh (ag (Sx.V.agg [V.d uG]).cl 34)/\dh (ag [V.d (D.v (Value.string (sb i.p.code))),V.own 1,V.d (dI i.p.tick),V.d (dI i.p.low),V.d (dI i.p.high),V.d (dI i.p.wide),V.d (dI i.p.rule),V.d (dI i.p.top),V.d (dI i.p.least),V.d (dI i.p.part),V.own 2] 25)/\dh (af 1 (iE i.p.settle))/\dh (af 1 (iE i.p.months))) (∃(l:Unit),zD i.s=zD c/\aa yG (y3 i.p i.B)=aa yG (ab k (y3 i.p i.B))/\True))
def y0g (i:SbI):Prop:=
 ∃(i_1:SbI),i_1.s=i.s/\bE i_1.b=bE i.b/\i_1.b.length<=1099511627776/\∀(o:Unit),True->∃(o:Unit),(zR i.s i.b).snd=(zR i_1.s i_1.b).snd/\True
def yUq (g:Gt):Prop:=
 ∃(o:Unit),AObj.adt Mkt 5 yM g.m=kX g.m/\dh (xH g.W)/\True
def yUl (m:Mkt):Prop:=
 ∃(o:Unit),dh (sb m.p.code)/\dh m.p.tick/\dh m.p.low/\dh m.p.high/\dh m.p.wide/\dh m.p.rule/\dh m.p.top/\dh m.p.least/\dh m.p.part/\zD m.s=yM m 1/\dh (zU m.used)/\af 1 (iE m.p.months)=yM m 3/\af 1 (iE m.p.settle)=yM m 4/\True
def zAz (a:EdI):Prop:=sb a.p.code=sb a.p.code/\True/\dh a.p.tick/\dh a.p.low/\dh a.p.high/\dh a.p.wide/\dh a.p.rule/\dh a.p.top/\dh a.p.least/\dh a.p.part/\True/\True
def zAh (a:EdI):=(aa yG (y3 a.p (a.x.X a.p a.s a.b).B))
def z3b (a:EdI) (b:Mkt) (c:Gt) (d:List (List UInt8)) (e:GdI):Prop:=∃(f:LkI),sb f.p.code=sb a.p.code/\iE f.p.months=iE a.p.months/\f.p.tick=a.p.tick/\f.p.low=a.p.low/\f.p.high=a.p.high/\f.p.wide=a.p.wide/\f.p.rule=a.p.rule/\f.p.top=a.p.top/\f.p.least=a.p.least/\f.p.part=a.p.part/\iE f.p.settle=iE a.p.settle/\zD f.s=zD b.s/\(f.s.Rep f.p f.B/\BOk f.p f.B)/\∀(g:Unit),True->∃(h:DvI),aa yG h.v=aa yG (y3 a.p a.x.B)/\aa yG h.w=aa yG (y3 f.p f.B)/\h.seq=a.x.q/\(ae h.v=ae h.w/\((-4000000000000000000)<=h.seq/\h.seq<=4000000000000000000)/\h.v.levs<=100000000/\h.w.levs<=100000000/\ae h.v<=1000000)/\∀(j:Unit),True->∃(k:Mkt),dh (sb a.p.code)/\dh a.p.tick/\dh a.p.low/\dh a.p.high/\dh a.p.wide/\dh a.p.rule/\dh a.p.top/\dh a.p.least/\dh a.p.part/\a.x.q+(↑(a.x.M a.p a.s a.b).length:Int)=ap.wrap (a.x.q+(↑(aa yN (wT h.seq (j8 0 h.v h.w))).length:Int))/\sb k.p.code=sb b.p.code/\k.p.tick=b.p.tick/\k.p.low=b.p.low/\k.p.high=b.p.high/\k.p.wide=b.p.wide/\k.p.rule=b.p.rule/\k.p.top=b.p.top/\k.p.least=b.p.least/\k.p.part=b.p.part/\zD k.s=zD f.s/\zU k.used=zU b.used/\af 1 (iE k.p.months)=af 1 (iE b.p.months)/\af 1 (iE k.p.settle)=af 1 (iE b.p.settle)/\xH (a.x.X a.p a.s a.b).W=xH c.W/\dh (af 1 (iE a.p.months))/\dh (af 1 (iE a.p.settle))/\aa rcE (a.x.R++[vG a.s a.b])=aa rcE a.x.R++[[D.ro 1 (bE d.flatten)]]/\af 10 (zAh a)=af 10 (aa yG (y3 f.p f.B))/\aa xZ a.O=aa xZ e.X.O/\aa yN a.N=aa yN (wT h.seq (j8 0 h.v h.w))/\k.Rep a.p (a.x.X a.p a.s a.b).B (a.x.X a.p a.s a.b).U
def z2j (a:EdI) (b:Mkt) (c:Gt) (d:List (List UInt8)) (e:GdI):Prop:=(zAz a)/\z3b a b c d e
def z4i (a:EdI) (b:Gt) (c:List (List UInt8)) (d:GdI):Prop:=(zAz a)/\∃(e:Mkt),sb e.p.code=sb b.m.p.code/\e.p.tick=b.m.p.tick/\e.p.low=b.m.p.low/\e.p.high=b.m.p.high/\e.p.wide=b.m.p.wide/\e.p.rule=b.m.p.rule/\e.p.top=b.m.p.top/\e.p.least=b.m.p.least/\e.p.part=b.m.p.part/\zD e.s=zD b.m.s/\zU e.used=zU b.m.used/\af 1 (iE e.p.months)=af 1 (iE b.m.p.months)/\af 1 (iE e.p.settle)=af 1 (iE b.m.p.settle)/\True/\∀(f:Unit),True->z2j a e b c d
def zLn (a:GdI):Prop:=(a.g.m.Rep a.p a.B a.U/\BOk a.p a.B)/\a.b.length<=1099511627776/\a.X=rF a.p a.B a.U a.g.W a.s a.b
def Ved (i:EdI):Prop:=
 True/\True/\∃(a:List (List UInt8)),aa rcE a=[[D.ro 1 [[D.v (.int .u8 (aq.wrap i.s))]]],[D.ro 1 (bE i.b)]]/\(1<=a.flatten.length/\a.flatten.length<=1099511627776/\a.length<=1000)/\∀(b:Unit),True->True/\True/\((aa rcE i.x.R).length+1)*(24:Nat)<=(140737488355328:Nat)/\∃(c:GdI),c.s=i.s/\bE c.b=bE i.b/\GtR c.g=GtR i.g/\(zLn c)/\∀(d:Mkt),d.Rep c.p c.X.B c.X.U->(∃(e:Gt),kX e.m=kX d/\xH e.W=xH c.X.W/\True/\∀(f:Unit),True->(zAz i)/\(∃(g:Mkt),sb g.p.code=sb e.m.p.code/\g.p.tick=e.m.p.tick/\g.p.low=e.m.p.low/\g.p.high=e.m.p.high/\g.p.wide=e.m.p.wide/\g.p.rule=e.m.p.rule/\g.p.top=e.m.p.top/\g.p.least=e.m.p.least/\g.p.part=e.m.p.part/\zD g.s=zD e.m.s/\zU g.used=zU e.m.used/\af 1 (iE g.p.months)=af 1 (iE e.m.p.months)/\af 1 (iE g.p.settle)=af 1 (iE e.m.p.settle)/\True/\∀(h:Unit),True->(zAz i)/\(z3b i g e a c)/\z2j i g e a c)/\z4i i e a c)/\True/\(zAz i)/\∃(e:Gt),kX e.m=kX d/\xH e.W=xH c.X.W/\True/\∀(f:Unit),True->z4i i e a c
end Sx
