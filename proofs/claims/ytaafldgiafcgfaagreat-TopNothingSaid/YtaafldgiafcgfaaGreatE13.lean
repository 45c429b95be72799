/- Texts of ours. No condition. -/
import Derived.Test.YtaafldgiafcgfaaGreatE12
set_option linter.all false
open List renaming map->aa,take->ab,drop->ac,length->ae,replicate->af
open Sx.AObj renaming fro->ag,cells->aj,adt->ak,own->am
open Go.IntKind renaming i64->ao,u8->ap
open Bool renaming false->aq,true->ar
open Int renaming toNat->au
open Option renaming some->av
open Go.Value renaming string->aw
open Go renaming Value->ax,TypeId->ay
namespace Sx
set_option maxRecDepth 100000
open Go Cv Go.Proofs
def zJl (a:Nat) (b:Nat) (c:BsI) (d:Nat->Prop) (e:Nat->Nat):Prop:=(↑a:Int)=ao.wrap ((↑b:Int)+1)/\dh ((zW c.l c.s).fst.price)/\dh ((zW c.l c.s).fst.qty)/\dh ((zW c.l c.s).fst.a.inst)/\dh ((zW c.l c.s).fst.a.side)/\dh ((zW c.l c.s).fst.b.inst)/\dh ((zW c.l c.s).fst.b.side)/\d a/\e a<e b/\True
def qY (a:Nat) (b:BsI):=(f7 (ab a b.l) (zW b.l b.s).fst)
def yRt (i:BsI):Prop:=
 ∃(a:BsI),aa zJ a.l=aa zJ i.l/\a.s=i.s/\(dY a)/\∀(b:Unit),True->cnd (!(zW a.l a.s).snd) (∃(c:Unit),(qH i.l i.s).fst.price=0/\(qH i.l i.s).fst.qty=0/\(qH i.l i.s).fst.count=0/\(qH i.l i.s).snd=aq/\True) (∃(c:Nat),(qY c i).fst=(zW a.l a.s).fst.qty/\(qY c i).snd=0/\(↑c:Int)=0/\(zW i.l i.s).fst.price=(zW a.l a.s).fst.price/\(zW i.l i.s).fst.qty=(zW a.l a.s).fst.qty/\(zW i.l i.s).fst.a.inst=(zW a.l a.s).fst.a.inst/\(zW i.l i.s).fst.a.side=(zW a.l a.s).fst.a.side/\(zW i.l i.s).fst.b.inst=(zW a.l a.s).fst.b.inst/\(zW i.l i.s).fst.b.side=(zW a.l a.s).fst.b.side/\∃(d:Nat->Prop),∃(e:Nat->Nat),d c/\∀(f:Nat),d f->cnd (decide ((↑f:Int)<(vU i))) ((0<=(↑f:Int)/\(↑f:Int)<(vU i))/\∃(g:Int),∃(h:Int),∃(j:Int),∃(k:Int),∃(l:Int),∃(m:Int),zE (aa zJ i.l) (↑f:Int).toNat 0 6=av [dI g,dI h,dI j,dI k,dI l,dI m]/\cnd (g==(zW i.l i.s).fst.price) (∃(n:Nat),((qY n i).fst=if h>(qY f i).fst then h else(qY f i).fst)/\(qY n i).snd=ao.wrap ((qY f i).snd+1)/\zJl n f i d e) (∃(n:Nat),(qY n i).fst=(qY f i).fst/\(qY n i).snd=(qY f i).snd/\zJl n f i d e)) (∃(g:Unit),(qH i.l i.s).fst.price=(zW i.l i.s).fst.price/\(qH i.l i.s).fst.qty=(qY f i).fst/\(qH i.l i.s).fst.count=(qY f i).snd/\(qH i.l i.s).snd=ar/\True))
def yEb (i:DtI):Prop:=
 True/\((aa xG i.d.out).length+1)*(56:Nat)<=(140737488355328:Nat)/\∃(a:Unit),i.d.seq+(↑(1:Nat):Int)=ao.wrap (i.d.seq+1)/\aa xG (i.d.out++wM i.d.seq [i.m])=aa xG i.d.out++[[dI (ao.wrap (i.d.seq+1)),dI (↑i.m.inst:Int),dI i.m.side,dI i.m.l.price,dI i.m.l.qty,dI i.m.l.count,D.v (.bool i.m.imp)]]/\True
def kX (a:DsI) (b:DsJ):=(a.d.out++wM a.d.seq b.M)
def pU (a:DsI):Prop:=aj [V.own 4,V.d (dI a.b.imp.price),V.d (dI a.b.imp.qty),V.d (dI a.b.imp.count),V.d (D.v (.bool a.b.has))] 129=aj [V.own 4,V.d (dI a.b.imp.price),V.d (dI a.b.imp.qty),V.d (dI a.b.imp.count),V.d (D.v (.bool a.b.has))] 129/\dh (ag 3 (aa lvE a.b.levels))/\dh (aj [V.own 2,V.d (dI a.a.imp.price),V.d (dI a.a.imp.qty),V.d (dI a.a.imp.count),V.d (D.v (.bool a.a.has))] 129)/\dh (ag 3 (aa lvE a.a.levels))
def zIq (a:DsI) (b:DsJ):Prop:=aj [V.d (dI (a.d.seq+(↑b.M.length:Int))),V.own 7] (230:ay)=aj [V.d (dI (a.d.seq+(↑b.M.length:Int))),V.own 7] (230:ay)/\dh (am zNh 7 (aa xG (kX a b)))/\pU a
def nJ (a:Bool->Prop) (b:Bool) (c:DsI) (d:DsJ):Prop:=a b/\zIq c d
def zIf (a:DsI) (b:Int) (c:Int) (d:Bool->Prop) (e:DsJ):Prop:=∃(f:I3),f.side=a.s/\f.x=b/\f.y=c/\True/\∀(g:Unit),True->∃(h:Bool),h=bD f.side f.x f.y/\nJ d h a e
def lY (a:Bool->Prop) (b:DsI) (c:DsJ):Prop:=∃(d:Bool),d=ar/\nJ a d b c
def zGx (a:Lv->Prop) (b:Lv) (c:DsI) (d:DsJ):Prop:=a b/\zIq c d
def zGz (a:DsJ->Prop) (b:DsJ) (c:DsJ->Nat) (d:DsJ) (e:DsI):Prop:=a b/\c b<c d/\pU e
def zHn (a:DsI) (b:DsJ) (c:DtI) (d:DsJ->Prop) (e:DsJ->Nat) (f:DsJ):Prop:=a.d.seq+(↑b.M.length:Int)=c.d.seq+(↑(1:Nat):Int)/\aa xG (kX a b)=aa xG (c.d.out++wM c.d.seq [c.m])/\zGz d b e f a
def zGo (a:Dfr->Prop) (b:Dfr) (c:DsI):Prop:=a b/\pU c
def aE (a:DtI):Prop:=(-4611686018427387904)<=a.d.seq/\a.d.seq+(↑(1:Nat):Int)<=4611686018427387904/\a.d.out.length+(1:Nat)<=(1000000000:Nat)
def dG (a:DsJ):=(↑(aa lvE a.y).length:Int)
def dP (a:DsJ):Prop:=(0:Int)<=(0:Int)/\0<(dG a)
def gS (a:DsJ):=(↑(aa lvE a.x).length:Int)
def aQ (a:DsJ):Prop:=(0:Int)<=(0:Int)/\0<(gS a)
def dC (a:DsI):=(a.d.out++wM a.d.seq (j8 a.n a.s a.a a.b))
def dK (a:DsI):=(↑(j8 a.n a.s a.a a.b).length:Int)
def yFw (i:DsI):Prop:=
 ∃(a:DsJ),aa lvE a.x=aa lvE i.a.levels/\aa lvE a.y=aa lvE i.b.levels/\i.d.seq+(↑a.M.length:Int)=i.d.seq/\aa xG (kX i a)=aa xG i.d.out/\∃(b:DsJ->Prop),∃(c:DsJ->Nat),b a/\∀(d:DsJ),b d->cnd (decide (ao.wrap ((gS d)+(dG d))>0)) (∃(e:Bool),∃(f:Bool->Prop),cnd ((dG d)==0) (lY f i d) (cnd (decide ((gS d)>0)) ((aQ d)/\∃(g:Int),zE (aa lvE d.x) (au 0) 0 1=av [dI g]/\(dP d)/\∃(h:Int),zE (aa lvE d.y) (au 0) 0 1=av [dI h]/\zIf i g h f d) (∃(g:Bool),g=aq/\nJ f g i d))/\∀(g:Bool),f g->cnd g ((aQ d)/\∃(h:Int),zE (aa lvE d.x) (au 0) 0 1=av [dI h]/\∃(j:DtI),(↑j.m.inst:Int)=(↑i.n:Int)/\j.m.side=i.s/\j.m.l.price=h/\j.m.l.qty=0/\j.m.l.count=0/\j.m.imp=aq/\j.d.seq=i.d.seq+(↑d.M.length:Int)/\aa xG j.d.out=aa xG (kX i d)/\(aE j)/\∀(k:Unit),True->((0:Int)<=(1:Int)/\1<=(gS d))/\∃(l:DsJ),aa lvE l.x=ac (au 1) (aa lvE d.x)/\aa lvE l.y=aa lvE d.y/\zHn i l j b c d) (∃(h:Bool),∃(j:Bool->Prop),cnd ((gS d)==0) (lY j i d) ((dP d)/\∃(k:Int),zE (aa lvE d.y) (au 0) 0 1=av [dI k]/\(aQ d)/\∃(l:Int),zE (aa lvE d.x) (au 0) 0 1=av [dI l]/\zIf i k l j d)/\∀(k:Bool),j k->cnd k ((dP d)/\∃(l:Int),∃(m:Int),∃(n:Int),zE (aa lvE d.y) (au 0) 0 3=av [dI l,dI m,dI n]/\∃(p:DtI),(↑p.m.inst:Int)=(↑i.n:Int)/\p.m.side=i.s/\p.m.l.price=l/\p.m.l.qty=m/\p.m.l.count=n/\p.m.imp=aq/\p.d.seq=i.d.seq+(↑d.M.length:Int)/\aa xG p.d.out=aa xG (kX i d)/\(aE p)/\∀(q:Unit),True->((0:Int)<=(1:Int)/\1<=(dG d))/\∃(r:DsJ),aa lvE r.x=aa lvE d.x/\aa lvE r.y=ac (au 1) (aa lvE d.y)/\zHn i r p b c d) (∃(l:Dfr),l.seq=i.d.seq+(↑d.M.length:Int)/\aa xG l.out=aa xG (kX i d)/\∃(m:Dfr->Prop),(∃(n:Bool),∃(p:Bool->Prop),((aQ d)/\∃(q:Int),∃(r:Int),∃(s:Int),zE (aa lvE d.x) (au 0) 0 3=av [dI q,dI r,dI s]/\(dP d)/\∃(t:Int),∃(u:Int),∃(v:Int),zE (aa lvE d.y) (au 0) 0 3=av [dI t,dI u,dI v]/\∃(w:Bool),w=!(q==t && (r==u && (s==v && ar)))/\p w/\dh (aj [V.d (dI l.seq),V.own 9] (230:ay))/\dh (am zNh 7 (aa xG l.out))/\pU i)/\∀(q:Bool),p q->cnd q ((dP d)/\∃(r:Int),∃(s:Int),∃(t:Int),zE (aa lvE d.y) (au 0) 0 3=av [dI r,dI s,dI t]/\∃(u:DtI),(↑u.m.inst:Int)=(↑i.n:Int)/\u.m.side=i.s/\u.m.l.price=r/\u.m.l.qty=s/\u.m.l.count=t/\u.m.imp=aq/\u.d.seq=l.seq/\aa xG u.d.out=aa xG l.out/\(aE u)/\∀(v:Unit),True->∃(w:Dfr),w.seq=u.d.seq+(↑(1:Nat):Int)/\aa xG w.out=aa xG (u.d.out++wM u.d.seq [u.m])/\zGo m w i) (∃(r:Dfr),r.seq=l.seq/\aa xG r.out=aa xG l.out/\zGo m r i))/\∀(n:Dfr),m n->((0:Int)<=(1:Int)/\1<=(gS d))/\((0:Int)<=(1:Int)/\1<=(dG d))/\∃(p:DsJ),aa lvE p.x=ac (au 1) (aa lvE d.x)/\aa lvE p.y=ac (au 1) (aa lvE d.y)/\i.d.seq+(↑p.M.length:Int)=n.seq/\aa xG (kX i p)=aa xG n.out/\zGz b p c d i))) (∃(e:Bool),∃(f:Bool->Prop),cnd (!(i.a.imp.price==i.b.imp.price && (i.a.imp.qty==i.b.imp.qty && (i.a.imp.count==i.b.imp.count && ar)))) (lY f i d) (∃(g:Bool),g=!i.a.has==i.b.has/\nJ f g i d)/\∀(g:Bool),f g->cnd g (∃(h:Lv),h.price=i.b.imp.price/\h.qty=i.b.imp.qty/\h.count=i.b.imp.count/\∃(j:Lv->Prop),cnd (!i.b.has) (∃(k:Lv),k.price=0/\k.qty=0/\k.count=0/\zGx j k i d) (∃(k:Lv),k.price=h.price/\k.qty=h.qty/\k.count=h.count/\zGx j k i d)/\∀(k:Lv),j k->∃(l:DtI),(↑l.m.inst:Int)=(↑i.n:Int)/\l.m.side=i.s/\l.m.l.price=k.price/\l.m.l.qty=k.qty/\l.m.l.count=k.count/\l.m.imp=ar/\l.d.seq=i.d.seq+(↑d.M.length:Int)/\aa xG l.d.out=aa xG (kX i d)/\(aE l)/\∀(m:Unit),True->∃(n:Unit),i.d.seq+(dK i)=l.d.seq+(↑(1:Nat):Int)/\aa xG (dC i)=aa xG (l.d.out++wM l.d.seq [l.m])/\True) (∃(h:Unit),i.d.seq+(dK i)=i.d.seq+(↑d.M.length:Int)/\aa xG (dC i)=aa xG (kX i d)/\True))
def zIr (a:DsI):Prop:=(-4611686018427387904)<=a.d.seq/\a.d.seq+(↑(a.a.levels.length+a.b.levels.length+1):Int)<=4611686018427387904/\a.d.out.length+(a.a.levels.length+a.b.levels.length+1)<=1000000000
def pI (a:DvI) (b:Nat):=([]++wM a.seq (j0 0 (ab b a.v) (ab b a.w)))
def lT (a:Nat) (b:DvI):=(↑(j0 0 (ab a b.v) (ab a b.w)).length:Int)
def nH (a:DvI):=(↑(aa yG a.v).length:Int)
def yRs (i:DvI):Prop:=
 cnd ((nH i) !=(↑(aa yG i.w).length:Int)) (∃(a:Unit),aa xG (wM i.seq (j0 0 i.v i.w))=[]/\True) (∃(a:Nat),(↑a:Int)=0/\i.seq+(lT a i)=i.seq/\aa xG (pI i a)=[]/\∃(b:Nat->Prop),∃(c:Nat->Nat),b a/\∀(d:Nat),b d->cnd (decide ((↑d:Int)<(nH i))) (((0:Int)<=(0:Int)/\0<(↑(2:Nat):Int))/\∃(e:Int),zE [[dI 1],[dI 2]] (au 0) 0 1=av [dI e]/\(0<=(↑d:Int)/\(↑d:Int)<(nH i))/\∃(f:List (List D)),∃(g:Int),∃(h:Int),∃(j:Int),∃(k:Bool),zE (aa yG i.v) (↑d:Int).toNat 0 5=av [D.ro 3 f,dI g,dI h,dI j,D.v (.bool k)]/\(0<=(↑d:Int)/\(↑d:Int)<(↑(aa yG i.w).length:Int))/\∃(l:List (List D)),∃(m:Int),∃(n:Int),∃(p:Int),∃(q:Bool),zE (aa yG i.w) (↑d:Int).toNat 0 5=av [D.ro 3 l,dI m,dI n,dI p,D.v (.bool q)]/\∃(r:DsI),(↑r.n:Int)=(↑d:Int)/\r.s=e/\aa lvE r.a.levels=f/\r.a.imp.price=g/\r.a.imp.qty=h/\r.a.imp.count=j/\r.a.has=k/\aa lvE r.b.levels=l/\r.b.imp.price=m/\r.b.imp.qty=n/\r.b.imp.count=p/\r.b.has=q/\r.d.seq=i.seq+(lT d i)/\aa xG r.d.out=aa xG (pI i d)/\(zIr r)/\∀(s:Unit),True->(fH)/\∃(t:Int),zE [[dI 1],[dI 2]] (ao.wrap ((0:Int)+(1:Int))).toNat 0 1=av [dI t]/\(0<=(↑d:Int)/\(↑d:Int)<(nH i))/\∃(u:List (List D)),∃(v:Int),∃(w:Int),∃(x:Int),∃(y:Bool),zE (aa yG i.v) (↑d:Int).toNat 5 5=av [D.ro 3 u,dI v,dI w,dI x,D.v (.bool y)]/\(0<=(↑d:Int)/\(↑d:Int)<(↑(aa yG i.w).length:Int))/\∃(z:List (List D)),∃(a_1:Int),∃(a_2:Int),∃(a_3:Int),∃(a_4:Bool),zE (aa yG i.w) (↑d:Int).toNat 5 5=av [D.ro 3 z,dI a_1,dI a_2,dI a_3,D.v (.bool a_4)]/\∃(a_5:DsI),(↑a_5.n:Int)=(↑d:Int)/\a_5.s=t/\aa lvE a_5.a.levels=u/\a_5.a.imp.price=v/\a_5.a.imp.qty=w/\a_5.a.imp.count=x/\a_5.a.has=y/\aa lvE a_5.b.levels=z/\a_5.b.imp.price=a_1/\a_5.b.imp.qty=a_2/\a_5.b.imp.count=a_3/\a_5.b.has=a_4/\a_5.d.seq=r.d.seq+(dK r)/\aa xG a_5.d.out=aa xG (dC r)/\(zIr a_5)/\∀(a_6:Unit),True->∃(a_7:Nat),(↑a_7:Int)=ao.wrap ((↑d:Int)+1)/\i.seq+(lT a_7 i)=a_5.d.seq+(dK a_5)/\aa xG (pI i a_7)=aa xG (dC a_5)/\b a_7/\c a_7<c d/\dh (aj [V.own 2] 71)/\dh (ag 10 (aa yG i.w))/\dh (aj [V.own 0] 71)/\dh (ag 10 (aa yG i.v))) (∃(e:Unit),aa xG (wM i.seq (j0 0 i.v i.w))=aa xG (pI i d)/\True))
open Classical
def zNi {l:List Quote} {k:Nat} {q:Quote} (b:Quote) (h:l[k]? =av q):f7 (l.take (k+1)) b=if q.price=b.price then(if q.qty>(f7 (l.take k) b).1 then q.qty else(f7 (l.take k) b).1,(f7 (l.take k) b).2+1)else f7 (l.take k) b:=by
 rw[f7,y7h,h,y9b,xAu,y9r,List.foldl_nil];rfl
def zYl (b:Quote) (l:List Quote):∀k,k<=l.length->0<=(f7 (l.take k) b).2/\(f7 (l.take k) b).2<=k
 |0,_=>⟨by rw[xAm];exact y9i 0,by rw[xAm];exact y9i 0⟩
 |k+1,h=>by
  obtain⟨q,hq⟩:=yC (l:=l) (i:=k) oM;have:=zYl b l k oM;rw[zNi b hq];split
  ·dsimp only;constructor<;>omega
  ·constructor<;>omega
def yZq (i:BsI) (h:showC.cnd i):yRt i:=by
 obtain⟨hs,hl⟩:(i.s=1\/i.s=2)/\i.l.length<=1000000:=h;have hml:(i.l.map zJ).length=i.l.length:=y5z _;unfold yRt qY zJl dY vU dI;rw[hml];refine⟨i,rfl,rfl,⟨hs,hl⟩,λ_ _=>Cv.cnd.mk (λc=> ?_) (λc=> ?_)⟩
 ·have e:qH i.l i.s=(⟨0,0,0⟩,aq):=by rw[qH,y5x (by simpa using c)]
  rw[e];exact⟨(),k0q⟩
 have e:qH i.l i.s=(⟨(zW i.l i.s).1.price,(f7 i.l (zW i.l i.s).1).1,(f7 i.l (zW i.l i.s).1).2⟩,ar):=by rw[qH,y6a (by simpa using c)]
 rw[e];generalize (zW i.l i.s).1=b;refine⟨0,rF8 ⟨rfl,λk=>k<=i.l.length,λk=>i.l.length-k,y7e _,λk hk=>zI (λhlt=> ?_) (λhlt=> ?_)⟩⟩
 ·obtain⟨q,hq⟩:=yC (l:=i.l) (i:=k) oM;have st:=zNi b hq;have bd:=zYl b i.l k hk;have hk:k<=i.l.length:=hk;refine⟨⟨oM,oM⟩,q.price,q.qty,q.a.inst,q.a.side,q.b.inst,q.b.side,elA hq (by simp[zJ]) rfl,Cv.cnd.mk (λe=>⟨k+1,?_⟩) (λe=>⟨k+1,?_⟩)⟩
  ·rw[st,y6a (by simpa using e)];exact⟨rfl,by dsimp only;rw[w64 (by omega)],wjn oM,rF5 ⟨rfl,Z9,Z9,trivial⟩⟩
  ·rw[st,y5x (by simpa using e)];exact⟨rfl,rfl,wjn oM,rF5 ⟨rfl,Z9,Z9,trivial⟩⟩
 ·have hk:k<=i.l.length:=hk;obtain rfl:k=i.l.length:=by omega
  rw[y8x];exact⟨(),k0q⟩
def yOe:showC.ok Tryz.prog 80:=okw mixed (gokc zYy gok0) 0 (λ_=>[]) (λi=>yTf i) [] Tryz.func80 yZq
def zIg (p:Prd) (B:List (List zH)):(y5 p B).length=p.count:=by rw[y5,y5z,List.length_range]
def yBu (p:Prd) (B:List (List zH)) {j:Nat} (h:j<p.count):(y5 p B)[j]? =av (zFa p B j 1,zFa p B j 2):=by
 rw[y5,y7p,xAg h];rfl
def yJp (a b:Lv):(a.price==b.price && (a.qty==b.qty && (a.count==b.count && ar)))=decide (a=b):=by
 rw[xCc,decide_eq_true_iff];obtain⟨p,q,c⟩:=a;obtain⟨p2,q2,c2⟩:=b;simp
def yPa {v:Vw} {k:Nat} {b:Sd×Sd} (h:v[k]? =av b):zE (v.map yG) k 0 10=av [D.ro 3 (b.1.levels.map lvE),.v (.int .i64 b.1.imp.price),.v (.int .i64 b.1.imp.qty),.v (.int .i64 b.1.imp.count),.v (.bool b.1.has),.ro 3 (b.2.levels.map lvE),.v (.int .i64 b.2.imp.price),.v (.int .i64 b.2.imp.qty),.v (.int .i64 b.2.imp.count),.v (.bool b.2.has)]/\
 zE (v.map yG) k 0 5=av [D.ro 3 (b.1.levels.map lvE),.v (.int .i64 b.1.imp.price),.v (.int .i64 b.1.imp.qty),.v (.int .i64 b.1.imp.count),.v (.bool b.1.has)]/\
 zE (v.map yG) k 5 5=av [D.ro 3 (b.2.levels.map lvE),.v (.int .i64 b.2.imp.price),.v (.int .i64 b.2.imp.qty),.v (.int .i64 b.2.imp.count),.v (.bool b.2.has)]:=
 ⟨elA h (by simp[yG]) rfl,elA h (by simp[yG]) rfl,elA h (by simp[yG]) rfl⟩
def zOz (q:Int):∀(A B:List VM),wM q (A++B)=wM q A++wM (q+A.length) B
 |[],B=>by simp[wM]
 |a::A,B=>by
  rw[y7o,wM,wM,zOz,y6d,y7o];congr 3;omega
def zLe (d:Dfr) (A B:List VM):(d.add A).add B=d.add (A++B):=by
 rw[Dfr.add,Dfr.add,Dfr.add,zOz,y5y,y6f];congr 1;dsimp only;omega
def yVp (i:DtI) (h:dtellC.cnd i):yEb i:=by
 obtain⟨h1,h2,h3⟩:i.d.ok 1:=h;unfold yEb dI;have e:ao.wrap (i.d.seq+1)=i.d.seq+1:=w64 oM;rw[e];exact⟨trivial,by rw[y5z];omega,(),rfl,by rw[y6i];rfl,trivial⟩
def yGt:dtellC.ok Tryz.prog 170:=okw mixed gok0 0 (λ_=>[]) (λ_=>[]) [] Tryz.func170 yVp
def nF {s:Int}:∀(k:Nat) (X Y:List Lv),(vP s k X Y).length<=k
 |0,X,Y=>by rw[vP];exact y6v 0
 |k+1,[],[]=>by rw[vP];exact y7e _
 |k+1,x::X,[]=>by rw[vP,y6d];have:=nF (s:=s) k X [];omega
 |k+1,[],y::Y=>by rw[vP,y6d];have:=nF (s:=s) k [] Y;omega
 |k+1,x::X,y::Y=>by
  have h1:=nF (s:=s) k X (y::Y);have h2:=nF (s:=s) k (x::X) Y;have h3:=nF (s:=s) k X Y;rw[vP];split
  ·rw[y6d];omega
  split
  ·rw[y6d];omega
  rw[y5y];split
  ·simp only[y7s];omega
  ·simp only[y8a];omega
def z2g (n:Nat) (s:Int) (a b:Sd):(j8 n s a b).length<=a.levels.length+b.levels.length+1:=by
 have:=nF (s:=s) (a.levels.length+b.levels.length) a.levels b.levels;rw[j8,y5y,y5z];split
 ·rw[y8a];omega
 ·simp only[y7s];omega
def zWh:∀(n j:Nat) {v w:Vw} {a b:Sd×Sd},v[j]? =av a->w[j]? =av b->j0 n (v.take (j+1)) (w.take (j+1))=j0 n (v.take j) (w.take j)++(j8 (n+j) 1 a.1 b.1++j8 (n+j) 2 a.2 b.2)
 |n,0,x::v,y::w,a,b,h1,h2=>by
  obtain rfl:x=a:=by simpa using h1
  obtain rfl:y=b:=by simpa using h2
  simp[j0]
 |n,j+1,x::v,y::w,a,b,h1,h2=>by
  have:=zWh (n+1) j (v:=v) (w:=w) (a:=a) (b:=b) (by simpa using h1) (by simpa using h2);rw[y7k,y7k,y7k,y7k,j0,j0,this,y6f,y6f,y6f,y9p n 1 j,xBg 1 j]
 |_,0,[],_,_,_,h1,_=>by simp at h1
 |_,j+1,[],_,_,_,h1,_=>by simp at h1
 |_,0,_::_,[],_,_,_,h2=>by simp at h2
 |_,j+1,_::_,[],_,_,_,h2=>by simp at h2
def zAs {v:Vw} {j:Nat} {a:Sd×Sd} (h:v[j]? =av a):Vw.levs (v.take (j+1))=Vw.levs (v.take j)+(a.1.levels.length+a.2.levels.length):=by
 rw[Vw.levs,Vw.levs,y7h,h,y9b,y6i,xCe];simp
def z8d (v:Vw) (j:Nat):Vw.levs (v.take j)<=Vw.levs v:=by
 conv=>rhs;rw[<- y8f j v]
 rw[Vw.levs,Vw.levs,y6i,xCe];omega
def yFv (v w:Vw):∀j,j<=v.length->j<=w.length->(j0 0 (v.take j) (w.take j)).length<=Vw.levs (v.take j)+Vw.levs (w.take j)+2*j
 |0,_,_=>by rw[xAm,j0];exact y7e _;simp
 |j+1,h1,h2=>by
  obtain⟨a,ha⟩:=yC (l:=v) (i:=j) oM;obtain⟨b,hb⟩:=yC (l:=w) (i:=j) oM;have:=yFv v w j oM oM;have s1:=z2g (0+j) 1 a.1 b.1;have s2:=z2g (0+j) 2 a.2 b.2;rw[zWh 0 j ha hb,zAs ha,zAs hb,y5y,y5y];omega
def nW (q:Int):∀M:List VM,(wM q M).length=M.length
 |[]=>rfl
 |m::M=>by rw[wM,y6d,nW,y6d]
def tl1 (q:Int) (M:List VM) (m:VM):q+((M++[m]).length:Nat)=q+(M.length:Nat)+((1:Nat):Int):=by
 rw[y5y,y8a];omega
def tl2 (o:List zZp) (q:Int) (M:List VM) (m:VM):(o++wM q (M++[m])).map xG=((o++wM q M)++wM (q+(M.length:Nat)) [m]).map xG:=by rw[zOz,y6f]
def lvx (x:Lv) (X:List Lv):zE ((x::X).map lvE) 0 0 1=av [D.v (.int .i64 x.price)]/\zE ((x::X).map lvE) 0 0 3=av [D.v (.int .i64 x.price),.v (.int .i64 x.qty),.v (.int .i64 x.count)]:=⟨rfl,rfl⟩
def yIb (s:Int) (k:Nat):vP s k [] []=[]:=by cases k<;>rw[vP]
def yYl (i:DsI) (h:dsideC.cnd i):yFw i:=by
 obtain⟨d,n,s,⟨al,ai,ah⟩,⟨bl,bi,bh⟩⟩:=i;obtain⟨h1,h2,h3⟩:Dfr.ok d (al.length+bl.length+1):=h;unfold yFw zGo zHn zGz zGx lY zIf nJ zIq pU kX dK dC aQ gS dP dG aE dI;refine⟨⟨al,bl,[]⟩,rfl,rfl,by simp,by simp[wM],λj=>∃k,j.x.length+j.y.length<=k/\(vP s (al.length+bl.length) al bl).map (λl=>(⟨n,s,l,aq⟩:VM))=j.M++(vP s k j.x j.y).map (λl=>(⟨n,s,l,aq⟩:VM))/\k+j.M.length<=al.length+bl.length,λj=>j.x.length+j.y.length,⟨al.length+bl.length,y6v _,rfl,y6v _⟩,?_⟩;rintro⟨x,y,M⟩ ⟨k,hk,hM,hl⟩;dsimp only at hk hM hl ⊢;have hx:(x.map lvE).length=x.length:=y5z _;have hy:(y.map lvE).length=y.length:=y5z _;have ok1:Dfr.ok ⟨d.seq+(M.length:Nat),d.out++wM d.seq M⟩ 1:=⟨Z9,Z9,by dsimp only;rw[y5y,nW];omega⟩
 rw[hx,hy,w64 (by omega)];refine zI (λc=> ?_) (λc=> ?_)
 ·obtain⟨k',rfl⟩:∃k',k=k'+1:=⟨k-1,oM⟩
  rcases x with _|⟨a,X⟩
  ·rcases y with _|⟨b,Y⟩
   ·exact absurd c (by simp)
   refine⟨aq,λt=>t=aq,Cv.cnd.mk (λe=> ?_) (λ_=>Cv.cnd.mk (λe=>absurd e (by simp)) (λ_=>⟨aq,rfl,rfl,k0q⟩)),?_⟩
   ·exfalso;simp at e;omega
   rintro _ rfl;refine Cv.cnd.mk (λc=>absurd c Z8) (λ_=>⟨aq,λt=>t=ar,Cv.cnd.mk (λ_=>⟨ar,rfl,rfl,k0q⟩) (λe=>absurd e (by simp)),?_⟩);rintro _ rfl;refine Cv.cnd.mk (λ_=> ?_) (λc=>absurd c Z8);rw[y6d]at hk;refine⟨⟨Z8,by rw[y6d];omega⟩,b.price,b.qty,b.count,(lvx b Y).2,⟨_,⟨n,s,b,aq⟩⟩,rfl,rfl,rfl,rfl,rfl,rfl,rfl,rfl,ok1,λ_ _=>⟨⟨Z8,by rw[y6d];omega⟩,⟨[],Y,M++[⟨n,s,b,aq⟩]⟩,rfl,rfl,tl1 _ _ _,tl2 _ _ _ _,⟨k',Z9,?_,by dsimp only;rw[y5y,y8a];omega⟩,by dsimp only;rw[y6d];omega,k0q⟩⟩;rw[hM,vP,y6m,y6f];rfl
  rcases y with _|⟨b,Y⟩
  ·refine⟨aq,λt=>t=ar,Cv.cnd.mk (λ_=>⟨ar,rfl,rfl,k0q⟩) (λe=>absurd e (by simp)),?_⟩;rintro _ rfl;refine Cv.cnd.mk (λ_=> ?_) (λc=>absurd c Z8);rw[y6d]at hk;refine⟨⟨Z8,by rw[y6d];omega⟩,a.price,(lvx a X).1,⟨_,⟨n,s,⟨a.price,0,0⟩,aq⟩⟩,rfl,rfl,rfl,rfl,rfl,rfl,rfl,rfl,ok1,λ_ _=>⟨⟨Z8,by rw[y6d];omega⟩,⟨X,[],M++[⟨n,s,⟨a.price,0,0⟩,aq⟩]⟩,rfl,rfl,tl1 _ _ _,tl2 _ _ _ _,⟨k',by dsimp only;simp only[y7s]at hk ⊢;omega,?_,by dsimp only;rw[y5y,y8a];omega⟩,by dsimp only;rw[y6d];omega,k0q⟩⟩;rw[hM,vP,y6m,y6f];rfl
  rw[y6d,y6d]at hk;have la:(0:Int)<=0/\(0:Int)<((a::X).length:Nat):=⟨Z8,by rw[y6d];omega⟩
  have lb:(0:Int)<=0/\(0:Int)<((b::Y).length:Nat):=⟨Z8,by rw[y6d];omega⟩
  have la1:(0:Int)<=1/\(1:Int)<=((a::X).length:Nat):=⟨Z8,by rw[y6d];omega⟩
  have lb1:(0:Int)<=1/\(1:Int)<=((b::Y).length:Nat):=⟨Z8,by rw[y6d];omega⟩
  refine⟨aq,λt=>t=btr s a.price b.price,Cv.cnd.mk (λe=> ?_) (λ_=>Cv.cnd.mk (λ_=>⟨la,a.price,(lvx a X).1,lb,b.price,(lvx b Y).1,⟨s,a.price,b.price⟩,rfl,rfl,rfl,trivial,λ_ _=>⟨_,rfl,rfl,k0q⟩⟩) (λe=> ?_)),?_⟩
  ·exfalso;simp at e;omega
  ·exfalso;simp at e
  rintro _ rfl;refine Cv.cnd.mk (λc1=> ?_) (λc1=> ?_)
  ·refine⟨la,a.price,(lvx a X).1,⟨_,⟨n,s,⟨a.price,0,0⟩,aq⟩⟩,rfl,rfl,rfl,rfl,rfl,rfl,rfl,rfl,ok1,λ_ _=>⟨la1,⟨X,b::Y,M++[⟨n,s,⟨a.price,0,0⟩,aq⟩]⟩,rfl,rfl,tl1 _ _ _,tl2 _ _ _ _,⟨k',by dsimp only;rw[y6d];omega,?_,by dsimp only;rw[y5y,y8a];omega⟩,by dsimp only;rw[y6d,y6d];omega,k0q⟩⟩;rw[hM,vP,y6a c1,y6m,y6f];rfl
  have c1:¬btr s a.price b.price=ar:=by simp[c1]
  refine⟨aq,λt=>t=btr s b.price a.price,Cv.cnd.mk (λe=> ?_) (λ_=>⟨lb,b.price,(lvx b Y).1,la,a.price,(lvx a X).1,⟨s,b.price,a.price⟩,rfl,rfl,rfl,trivial,λ_ _=>⟨_,rfl,rfl,k0q⟩⟩),?_⟩
  ·exfalso;simp at e;omega
  rintro _ rfl;refine Cv.cnd.mk (λc2=> ?_) (λc2=> ?_)
  ·refine⟨lb,b.price,b.qty,b.count,(lvx b Y).2,⟨_,⟨n,s,b,aq⟩⟩,rfl,rfl,rfl,rfl,rfl,rfl,rfl,rfl,ok1,λ_ _=>⟨lb1,⟨a::X,Y,M++[⟨n,s,b,aq⟩]⟩,rfl,rfl,tl1 _ _ _,tl2 _ _ _ _,⟨k',by dsimp only;rw[y6d];omega,?_,by dsimp only;rw[y5y,y8a];omega⟩,by dsimp only;rw[y6d,y6d];omega,k0q⟩⟩;rw[hM,vP,y5x c1,y6a c2,y6m,y6f];rfl
  have c2:¬btr s b.price a.price=ar:=by simp[c2]
  by_cases hab:a=b
  ·refine⟨⟨_,_⟩,rfl,rfl,λD=>D=⟨d.seq+(M.length:Nat),d.out++wM d.seq M⟩,⟨aq,λt=>t=aq,⟨la,a.price,a.qty,a.count,(lvx a X).2,lb,b.price,b.qty,b.count,(lvx b Y).2,_,rfl,by rw[yJp,y6p hab];rfl,k0q⟩,?_⟩,?_⟩
   ·rintro _ rfl;exact Cv.cnd.mk (λc=>absurd c Z8) (λ_=>⟨_,rfl,rfl,rfl,k0q⟩)
   rintro _ rfl;refine⟨la1,lb1,⟨X,Y,M⟩,rF3 ⟨rfl,⟨k',Z9,?_,Z9⟩,by dsimp only;rw[y6d,y6d];omega,k0q⟩⟩;rw[hM,vP,y5x c1,y5x c2,y6a hab];rfl
  ·refine⟨⟨_,_⟩,rfl,rfl,λD=>D=Dfr.add ⟨d.seq+(M.length:Nat),d.out++wM d.seq M⟩ [⟨n,s,b,aq⟩],⟨aq,λt=>t=ar,⟨la,a.price,a.qty,a.count,(lvx a X).2,lb,b.price,b.qty,b.count,(lvx b Y).2,_,rfl,by rw[yJp,y6n hab];rfl,k0q⟩,?_⟩,?_⟩
   ·rintro _ rfl;exact Cv.cnd.mk (λ_=>⟨lb,b.price,b.qty,b.count,(lvx b Y).2,⟨_,⟨n,s,b,aq⟩⟩,rfl,rfl,rfl,rfl,rfl,rfl,rfl,rfl,ok1,λ_ _=>⟨_,rfl,rfl,rfl,k0q⟩⟩) (λc=>absurd c Z8)
   rintro _ rfl;refine⟨la1,lb1,⟨X,Y,M++[⟨n,s,b,aq⟩]⟩,rfl,rfl,tl1 _ _ _,tl2 _ _ _ _,⟨k',Z9,?_,by dsimp only;rw[y5y,y8a];omega⟩,by dsimp only;rw[y6d,y6d];omega,k0q⟩;rw[hM,vP,y5x c1,y5x c2,y5x hab,y6i,y6f];rfl
 obtain rfl:x=[]:=y6y oM;obtain rfl:y=[]:=y6y oM;rw[yIb,y9q,y6w]at hM;rw[yJp];refine⟨aq,λt=>t=yEv ⟨al,ai,ah⟩ ⟨bl,bi,bh⟩,Cv.cnd.mk (λe=>⟨ar,rfl,?_,k0q⟩) (λe=>⟨_,rfl,?_,k0q⟩),?_⟩
 ·have e:ai≠bi:=by simpa using e
  rw[yEv];simp[e]
 ·have e:ai=bi:=by simpa using e
  rw[yEv,e];cases ah<;>cases bh<;>simp
 rintro _ rfl;refine Cv.cnd.mk (λe=>⟨bi,rfl,rfl,rfl,λl=>l=yCk ⟨bl,bi,bh⟩,Cv.cnd.mk (λe2=>⟨lv0,rfl,rfl,rfl,?_,k0q⟩) (λe2=>⟨bi,rfl,rfl,rfl,?_,k0q⟩),?_⟩) (λe=> ?_)
 ·rw[yCk,y5x (by simpa using e2)]
 ·rw[yCk,y6a (by simpa using e2)]
 ·rintro _ rfl;have hsd:j8 n s ⟨al,ai,ah⟩ ⟨bl,bi,bh⟩=M++[⟨n,s,yCk ⟨bl,bi,bh⟩,ar⟩]:=by rw[j8,y6a e,hM]
  rw[hsd];exact⟨⟨_,⟨n,s,yCk ⟨bl,bi,bh⟩,ar⟩⟩,rfl,rfl,rfl,rfl,rfl,rfl,rfl,rfl,ok1,λ_ _=>⟨(),tl1 _ _ _,tl2 _ _ _ _,trivial⟩⟩
 ·have hsd:j8 n s ⟨al,ai,ah⟩ ⟨bl,bi,bh⟩=M:=by rw[j8,y5x (by simp[e]),hM,y6w]
  rw[hsd];exact⟨(),rfl,rfl,trivial⟩
def yGn:dsideC.ok Tryz.prog 142:=okw mixed (gokc yGt (gokc zRz gok0)) 0 (λ_=>yTz) (λi=>yWp i) [] Tryz.func142 yYl
def yZk (i:DvI) (h:diffC.cnd i):yRs i:=by
 obtain⟨hvw,⟨s1,s2⟩,l1,l2,hn⟩:i.v.length=i.w.length/\(-4000000000000000000<=i.seq/\i.seq<=4000000000000000000)/\Vw.levs i.v<=100000000/\Vw.levs i.w<=100000000/\i.v.length<=1000000:=h;have hmx:(i.v.map yG).length=i.v.length:=y5z _;have hmy:(i.w.map yG).length=i.w.length:=y5z _;unfold yRs fH dK dC nH lT pI zIr dI;rw[hmx,hmy];refine Cv.cnd.mk (λc=> ?_) (λ_=> ?_)
 ·have c:(i.v.length:Int)≠i.w.length:=by simpa using c
  omega
 refine⟨0,rfl,by simp[j0],by simp[j0,wM],λj=>j<=i.v.length,λj=>i.v.length-j,y7e _,λj hj=>zI (λe=> ?_) (λe=> ?_)⟩
 ·have hj:j<=i.v.length:=hj;obtain⟨a,ha⟩:=yC (l:=i.v) (i:=j) oM;obtain⟨b,hb⟩:=yC (l:=i.w) (i:=j) oM;have hd:=yFv i.v i.w j hj oM;have t1:=zAs ha;have t2:=zAs hb;have u1:=z8d i.v (j+1);have u2:=z8d i.w (j+1);have q1:=z2g j 1 a.1 b.1;have hvt:=zWh 0 j ha hb;rw[y6x]at hvt;have bdv:(0:Int)<=j/\(j:Int)<(i.v.length:Nat):=⟨oM,e⟩
  have bdw:(0:Int)<=j/\(j:Int)<(i.w.length:Nat):=⟨oM,oM⟩
  obtain⟨D,hD⟩:∃D:Dfr,D=Dfr.add ⟨i.seq,[]⟩ (j0 0 (i.v.take j) (i.w.take j)):=⟨_,rfl⟩
  have hDs:D.seq=i.seq+((j0 0 (i.v.take j) (i.w.take j)).length:Nat):=by rw[hD];rfl
  have hDo:D.out=[]++wM i.seq (j0 0 (i.v.take j) (i.w.take j)):=by rw[hD];rfl
  have hDl:D.out.length=(j0 0 (i.v.take j) (i.w.take j)).length:=by rw[hDo,y8s,nW]
  refine⟨⟨Z8,Z8⟩,1,rfl,bdv,_,_,_,_,_,(yPa ha).2.1,bdw,_,_,_,_,_,(yPa hb).2.1,⟨D,j,1,a.1,b.1⟩,rfl,rfl,rfl,rfl,rfl,rfl,rfl,rfl,rfl,rfl,rfl,rfl,hDs,by rw[hDo],⟨Z9,Z9,Z9⟩,λ_ _=>⟨⟨Z8,Z8⟩,2,rfl,bdv,_,_,_,_,_,(yPa ha).2.2,bdw,_,_,_,_,_,(yPa hb).2.2,⟨D.add (j8 j 1 a.1 b.1),j,2,a.2,b.2⟩,rfl,rfl,rfl,rfl,rfl,rfl,rfl,rfl,rfl,rfl,rfl,rfl,rfl,rfl,⟨by simp only[Dfr.add];omega,by simp only[Dfr.add];omega,by simp only[Dfr.add];rw[y5y,nW];omega⟩,λ_ _=>⟨j+1,wjn oM,?_,?_,Z9,Z9,k0q⟩⟩⟩
  ·show(Dfr.add ⟨i.seq,[]⟩ (j0 0 (i.v.take (j+1)) (i.w.take (j+1)))).seq=((D.add (j8 j 1 a.1 b.1)).add (j8 j 2 a.2 b.2)).seq;rw[hvt,hD,zLe,zLe]
  ·show(Dfr.add ⟨i.seq,[]⟩ (j0 0 (i.v.take (j+1)) (i.w.take (j+1)))).out.map xG=((D.add (j8 j 1 a.1 b.1)).add (j8 j 2 a.2 b.2)).out.map xG;rw[hvt,hD,zLe,zLe]
 ·have hj:j<=i.v.length:=hj;rw[y6k (by omega),y6k (by omega)];exact⟨(),rfl,trivial⟩
def yEx:diffC.ok Tryz.prog 101:=okw mixed (gokc yGn gok0) 1 (λ_=>[]) (λi=>yZw i) [] Tryz.func101 yZk
def ySc:∀{l:List zH} {v:Lv},v∈grp l->(1<=v.count/\v.count<=l.length)/\∃o∈l,o.price=v.price
 |[],v,h=>by cases h
 |o::l,v,h=>by
  have ih:∀v∈grp l,(1<=v.count/\v.count<=l.length)/\∃o∈l,o.price=v.price:=λv hv=>ySc hv
  rw[grp]at h;rw[y6d];split at h
  ·rw[y7q]at h;subst h;exact⟨Z9,o,y6e,rfl⟩
  ·rename_i w ws e;rw[e]at ih;have hw:=ih w y6e;split at h
   ·rename_i ep;rcases y6q.1 h with rfl|h
    ·exact⟨Z9,o,y6e,ep.symm⟩
    ·obtain⟨a,x,hx,hp⟩:=ih v (y6g _ h);exact⟨oM,x,y6g _ hx,hp⟩
   ·rcases y6q.1 h with rfl|h
    ·exact⟨Z9,o,y6e,rfl⟩
    ·obtain⟨a,x,hx,hp⟩:=ih v h;exact⟨oM,x,y6g _ hx,hp⟩
def z7i:∀l:List zH,(grp l).length<=l.length
 |[]=>y6v 0
 |o::l=>by
  have ih:=z7i l;rw[grp,y6d];cases e:grp l with
  |nil=>simp
  |cons w ws=>
   rw[e,y6d]at ih;dsimp only;split
   ·rw[y6d];omega
   ·rw[y6d,y6d];omega
def yWk {s:Int} {L:List Lv} (h:yMd s L) (hp:∀l∈L,1<=l.qty/\1<=l.count) (i:Nat):LvAt s L i:=by
 intro a ha;have hm:=hp a (y6j ha);refine⟨hm.1,hm.2,?_⟩;rintro j b rfl hb;obtain⟨h1,e1⟩:=y6c.1 ha;obtain⟨h2,e2⟩:=y6c.1 hb;have:=(List.pairwise_iff_getElem.1 h) j (j+1) h2 h1 (xBe j);rw[e1,e2]at this;exact this
def z7e {p:Prd} {B:List (List zH)} (h:BWf p B) {k:Nat} {L:List zH} (hL:B[k]? =av L) {s:Int} (hs:s=1\/s=2):
 (∀i,LvAt s (hJ L s) i)/\(hJ L s).length<=255/\∀l∈hJ L s,(1<=l.qty/\l.qty<=250000000)/\l.fit:=by
 obtain⟨h1,h2,h3⟩:=h.od k L hL;have hf:(L.filter λo=>decide (o.side=s)).length<=L.length:=y9l _ _;have hl:=z7i (L.filter λo=>decide (o.side=s));have hall:∀l∈hJ L s,(1<=l.qty/\l.qty<=250000000)/\(1<=l.count/\l.count<=250)/\(-2000000<=l.price/\l.price<=2000000):=λl hm=>by
  have q:=z8m (λo ho=>h1 o (y7y.1 ho).1) hm;obtain⟨c,o,ho,e⟩:=ySc hm;have hp:=h.ok.prices hL o (y7y.1 ho).1;rw[e]at hp;exact⟨oM,oM,hp⟩
 refine⟨yWk (yPn h hL hs).1 λl hm=>⟨(hall l hm).1.1,(hall l hm).2.1.1⟩,by rw[hJ];omega,λl hm=> ?_⟩;obtain⟨a,b,c⟩:=hall l hm;exact⟨a,⟨oM,oM⟩,⟨oM,oM⟩,⟨oM,oM⟩⟩
def z1r {p:Prd} {B:List (List zH)} (h:BWf p B) {k:Nat} {L:List zH} (hL:B[k]? =av L) {s:Int} (hs:s=1\/s=2) (hb:(bestL L s).2=ar):1<=(bestL L s).1.qty/\(bestL L s).1.qty<=250000000:=by
 have hm:(bestL L s).1∈hJ L s:=by
  rw[bestL]at hb ⊢;split at hb
  ·cases hb
  ·rename_i v vs e;rw[e];exact y6e
 exact((z7e h hL hs).2.2 _ hm).1
def yRj {p:Prd} {B:List (List zH)} (h:BWf p B) {i s:Int} (hi:0<=i/\i<(B.map kD).length) (hs:s=1\/s=2) (hh:((B.map kD).getD i.toNat top0).has s=ar):1<=((B.map kD).getD i.toNat top0).qty s/\((B.map kD).getD i.toNat top0).qty s<=250000000:=by
 rw[y5z]at hi;obtain⟨L,hL⟩:=yC (l:=B) (i:=i.toNat) oM;have e:(B.map kD).getD i.toNat top0=kD L:=by rw[y6h,y7p,hL];rfl
 rw[e]at hh ⊢;obtain⟨t1,t2,t3,t4,t5,t6⟩:=zLa L;rcases hs with rfl|rfl
 ·rw[Top.has,y6a rfl,t3]at hh;rw[Top.qty,y6a rfl,t2];exact z1r h hL (.inl rfl) hh
 ·rw[Top.has,y5x (by decide),t6]at hh;rw[Top.qty,y5x (by decide),t5];exact z1r h hL (.inr rfl) hh
def yQb {p:Prd} {B:List (List zH)} (h:BWf p B) {n s:Int} (hs:s=1\/s=2) {q:Quote} (hq:q∈xW ⟨p,B.map kD,n⟩ s):(1<=q.qty/\q.qty<=250000000)/\(-2000000<=q.price/\q.price<=2000000):=by
 rw[xW,y7y]at hq;obtain⟨ok,-⟩:=z6k h.ok.pc (by rw[y5z,h.ok.bl]) hs hq.1;have qa:=yRj h ok.a ok.sa ok.ha;have qb:=yRj h ok.b ok.sb ok.hb;have hp:p.price n q.price=0:=by simpa using hq.2
 exact⟨by rw[ok.qty];omega,lB h.ok.pc hp⟩
def zHy (b:Quote) {M:Int}:∀(l:List Quote) (a:Int×Int),(∀q∈l,1<=q.qty/\q.qty<=M)->1<=a.1->a.1<=M->
 (1<=(l.foldl (λa q=>if q.price=b.price then(if q.qty>a.1 then q.qty else a.1,a.2+1)else a) a).1/\(l.foldl (λa q=>if q.price=b.price then(if q.qty>a.1 then q.qty else a.1,a.2+1)else a) a).1<=M)/\
 a.2<=(l.foldl (λa q=>if q.price=b.price then(if q.qty>a.1 then q.qty else a.1,a.2+1)else a) a).2/\(l.foldl (λa q=>if q.price=b.price then(if q.qty>a.1 then q.qty else a.1,a.2+1)else a) a).2<=a.2+l.length/\
 (b∈l->a.2+1<=(l.foldl (λa q=>if q.price=b.price then(if q.qty>a.1 then q.qty else a.1,a.2+1)else a) a).2)
 |[],a,_,h1,h2=>⟨⟨h1,h2⟩,y9i _,by simp,λh=>by cases h⟩
 |q::l,a,hq,h1,h2=>by
  have q0:=hq q y6e;rw[y9r,y6d];by_cases e:q.price=b.price
  ·rw[y6a e];obtain⟨r1,r2,r3,r4⟩:=zHy b (M:=M) l (if q.qty>a.1 then q.qty else a.1,a.2+1) (λx hx=>hq x (y6g _ hx)) (by dsimp only;split<;>omega) (by dsimp only;split<;>omega);dsimp only at r2 r3;exact⟨r1,oM,oM,λ_=>r2⟩
  ·rw[y5x e];obtain⟨r1,r2,r3,r4⟩:=zHy b (M:=M) l a (λx hx=>hq x (y6g _ hx)) h1 h2;refine⟨r1,r2,oM,λhb=> ?_⟩;rcases y6q.1 hb with rfl|hb
   ·exact absurd rfl e
   ·exact r4 hb
def yHa {l:List Quote} {s:Int} (hl:l.length<=100) (h:∀q∈l,(1<=q.qty/\q.qty<=250000000)/\(-2000000<=q.price/\q.price<=2000000)):
 ((qH l s).2=ar->1<=(qH l s).1.qty/\1<=(qH l s).1.count)/\((qH l s).2=aq->(qH l s).1=⟨0,0,0⟩)/\(qH l s).1.fit:=by
 by_cases e:(zW l s).2=ar
 ·have hm:=zGp e;have hb:=h _ hm;have:=zHy (zW l s).1 (M:=250000000) l ((zW l s).1.qty,0) (λq hq=>(h q hq).1) hb.1.1 hb.1.2;have e2:qH l s=(⟨(zW l s).1.price,(f7 l (zW l s).1).1,(f7 l (zW l s).1).2⟩,ar):=by rw[qH,y6a e]
  rw[e2];rw[<- f7]at this;obtain⟨r1,r2,r3,r4⟩:=this;have r4:=r4 hm;dsimp only at r2 r3 r4 ⊢;exact⟨λ_=>⟨r1.1,oM⟩,λx=>(by cases x),⟨Z9,Z9⟩,⟨Z9,Z9⟩,⟨Z9,Z9⟩⟩
 ·have e2:qH l s=(⟨0,0,0⟩,aq):=by rw[qH,y5x e]
  rw[e2];exact⟨λx=>(by cases x),λ_=>rfl,⟨Z8,Z8⟩,⟨Z8,Z8⟩,⟨Z8,Z8⟩⟩
def b7 {p:Prd} {B:List (List zH)} (h:BWf p B):bH (y5 p B)/\y3f (y5 p B)/\l5 (y5 p B):=by
 have hc:=xL p;have hlen:=zIg p B;have hside:∀k,k<p.count->∀s,s=1\/s=2->SdRight s (zFa p B k s)/\(zFa p B k s).fit:=λk hk s hs=>by
  obtain⟨L,hL⟩:=yC (l:=B) (i:=k) (by rw[h.ok.bl];exact hk);have e:B.getD k []=L:=zT hL;obtain⟨a1,a2,a3⟩:=z7e h hL hs;obtain⟨b1,b2,b3⟩:=yHa (s:=s) (zKh ⟨p,B.map kD,k⟩ s) (λq hq=>yQb h hs hq);rw[zFa,e];exact⟨⟨a1,a2,b1,b2⟩,λx hx=>(a3 x hx).2,b3⟩
 have hmem:∀b∈y5 p B,∃k,k<p.count/\b=(zFa p B k 1,zFa p B k 2):=λb hb=>by
  rw[y5]at hb;obtain⟨k,hk,rfl⟩:=y7j.1 hb;exact⟨k,y9c.1 hk,rfl⟩
 refine⟨⟨λb hb=> ?_,oM⟩,λb hb=> ?_,⟨oM,λb hb=> ?_⟩⟩
 ·obtain⟨k,hk,rfl⟩:=hmem b hb;exact⟨(hside k hk 1 (.inl rfl)).1,(hside k hk 2 (.inr rfl)).1⟩
 ·obtain⟨k,hk,rfl⟩:=hmem b hb;exact⟨(hside k hk 1 (.inl rfl)).2,(hside k hk 2 (.inr rfl)).2⟩
 ·obtain⟨k,hk,rfl⟩:=hmem b hb;have a:=(hside k hk 1 (.inl rfl)).1.2.1;have c:=(hside k hk 2 (.inr rfl)).1.2.1;dsimp only;omega
structure VwG (p:Prd) (v:Vw):Prop where
 r:bH v
 f:y3f v
 s:l5 v
 len:v.length=p.count
def zVr {p:Prd} {B:List (List zH)} (h:BWf p B):VwG p (y5 p B):=⟨(b7 h).1,(b7 h).2.1,(b7 h).2.2,zIg p B⟩
def yDw {p:Prd} {v:Vw} (h:VwG p v):Vw.levs v<=510*v.length:=by
 have:∀{v:Vw},(∀b∈v,SdRight 1 b.1/\SdRight 2 b.2)->Vw.levs v<=510*v.length:=by
  intro v
  induction v with
  |nil=>intro _;exact y6v _
  |cons a v ih=>
   intro h;have ha:=h a y6e;have:=ih λb hb=>h b (y6g _ hb)
   have h1:=ha.1.2.1;have h2:=ha.2.2.1;rw[Vw.levs]at this ⊢;rw[y6m,y7n,y6d];omega
 exact this h.r.1
@[reducible] def y5r (v:Vw):AObj:= .own 130 10 (v.map yG)
@[reducible] def zKu (v:Vw):AObj:= .fro 10 (v.map yG)
def lookOC:Con:=con1 LkI (λi=>[prdV i.p,.nm 0 0]) (λi=>[zD i.s]) (λi=>i.s.Rep i.p i.B/\BOk i.p i.B) (λ_=> .agg [.own 1]) (λi=>[zD i.s,y5r (y5 i.p i.B)])
def gchkC:Con:=con1 SbI (λi=>[.nm 0 0,zA i.s,roV 1 (bE i.b)]) (λ_=>[.gone]) (λi=>i.b.length<=1099511627776) (λi=>zA (zQ i.s i.b).2) (λ_=>[.gone])
def glookC:Con:=con1 Gt (λ_=>[.nm 0 0]) (λg=>GtO g) (λ_=>True) (λ_=> .nm 1 0) (λg=>GtO g)
def mlookC:Con:=con1 Mkt (λ_=>[.nm 0 0]) (λm=>zBh m) (λ_=>True) (λ_=> .nm 1 0) (λm=>zBh m)
structure En where
 p:Prd
 v:Vw
 q:Int
 R:List (List UInt8)
@[reducible] def zQm:Nat:=95
def enC (e:En) (r l:Nat):AObj:= .cells [sV e.p.code,.own 5,zA e.p.tick,zA e.p.low,zA e.p.high,zA e.p.wide,zA e.p.rule,zA e.p.top,zA e.p.least,zA e.p.part,.own 6,.nm 1 0,.nm 2 0,.own l,zA e.q,.own r] zQm
structure Es where
 B:List (List zH)
 U:List Int
 W:List (Int×Int)
 q:Int
 R:List (List UInt8)
def Es.en (x:Es) (p:Prd):En:=⟨p,y5 p x.B,x.q,x.R⟩
def tR (s:Int) (b:List UInt8):List UInt8:=lob s::b
def Es.X (x:Es) (p:Prd) (s:Int) (b:List UInt8):GtX:=aW p x.B x.U x.W s b
def Es.M (x:Es) (p:Prd) (s:Int) (b:List UInt8):List VM:=j0 0 (y5 p x.B) (y5 p (x.X p s b).B)
def Es.ed (x:Es) (p:Prd) (s:Int) (b:List UInt8):Es:=⟨(x.X p s b).B,(x.X p s b).U,(x.X p s b).W,x.q+(x.M p s b).length,x.R++[tR s b]⟩
structure EdI where
 o:Mkt
 x:Es
 p:Prd
 s:Int
 b:List UInt8
def EdI.g (i:EdI):Gt:=⟨i.o,i.x.W⟩
@[reducible] def EdI.ok (i:EdI):Prop:=(i.o.Rep i.p i.x.B i.x.U/\BOk i.p i.x.B)/\i.b.length<=1048576/\(0<=i.s/\i.s<8)/\(0<=i.x.q/\i.x.q<=1000000000000000000)/\i.x.R.length<=1000000
def EdI.Y (i:EdI):Es:=i.x.ed i.p i.s i.b
def EdI.N (i:EdI):List zZp:=wM i.x.q (i.x.M i.p i.s i.b)
def EdI.O (i:EdI):List (Int×Rep):=(i.x.X i.p i.s i.b).O
def EdI.rows (i:EdI):List AObj:=[enC (i.x.en i.p) 4 7,.gone,GtR i.g,.gone,rcR i.x.R,.fro 1 (iE i.p.months),.fro 1 (iE i.p.settle),zKu (y5 i.p i.x.B)]
def edC:Con where
 ι:=EdI
 pat:=λi=>[.nm 0 0,zA i.s,roV 1 (bE i.b)]
 pre:=λi=>i.rows
 cnd:=λi=>i.ok
 alts:=λi=>[{o:=Mkt,res:=λ_=> .agg [.own 10,.own 11],post:=λo=>[enC (i.Y.en i.p) 8 9,.gone,GtR ⟨o,i.Y.W⟩,.gone,.gone,.fro 1 (iE i.p.months),.fro 1 (iE i.p.settle),.gone,rcR i.Y.R,zKu (y5 i.p i.Y.B),z2t i.O,yBa i.N],rel:=λo=>o.Rep i.p i.Y.B i.Y.U}]
def yEo (i:LkI):Prop:=
 ∃(a:Prd),sb a.code=sb i.p.code/\iE a.months=iE i.p.months/\a.tick=i.p.tick/\a.low=i.p.low/\a.high=i.p.high/\a.wide=i.p.wide/\a.rule=i.p.rule/\a.top=i.p.top/\a.least=i.p.least/\a.part=i.p.part/\iE a.settle=iE i.p.settle/\(z5 a)/\∀(b:Unit),True->cnd (a.check !=0) (∃(c:Unit),dh (zD i.s)/\aa yG (y5 i.p i.B)=[]/\True) (∃(c:MSt),zD c=zD i.s/\(dE c)/\∀(d:Unit),True->∃(e:Prd),sb e.code=sb i.p.code/\iE e.months=iE i.p.months/\e.tick=i.p.tick/\e.low=i.p.low/\e.high=i.p.high/\e.wide=i.p.wide/\e.rule=i.p.rule/\e.top=i.p.top/\e.least=i.p.least/\e.part=i.p.part/\iE e.settle=iE i.p.settle/\(z5 e)/\∀(f:Unit),True->∃(g:Nat),(↑g:Int)=0/\aa yG (ab g (y5 i.p i.B))=[]/\aa z6 (aa kD i.B)=aa z6 c.tops/\∃(h:Nat->Prop),∃(j:Nat->Nat),h g/\∀(k:Nat),h k->cnd (decide ((↑k:Int)<(↑e.count:Int))) (((0:Int)<=(0:Int)/\0<(↑(2:Nat):Int))/\∃(l:Int),zE [[dI 1],[dI 2]] (au 0) 0 1=av [dI l]/\∃(m:SoI),m.inst=(↑k:Int)/\zC m.sd=l/\zD m.s=zD c/\(m.s.Rep m.p m.B/\m.B.length<=1000)/\∀(n:Unit),True->∃(p:lE),sb p.i.p.code=sb i.p.code/\iE p.i.p.months=iE i.p.months/\p.i.p.tick=i.p.tick/\p.i.p.low=i.p.low/\p.i.p.high=i.p.high/\p.i.p.wide=i.p.wide/\p.i.p.rule=i.p.rule/\p.i.p.top=i.p.top/\p.i.p.least=i.p.least/\p.i.p.part=i.p.part/\iE p.i.p.settle=iE i.p.settle/\aa z6 p.i.tops=aa z6 (aa kD i.B)/\p.i.inst=(↑k:Int)/\zC p.s=l/\(kL p)/\∀(q:Unit),True->∃(r:BsI),aa zJ r.l=aa zJ (xW p.i (zC p.s))/\r.s=l/\(dY r)/\∀(s:Unit),True->(fH)/\∃(t:Int),zE [[dI 1],[dI 2]] (ao.wrap ((0:Int)+(1:Int))).toNat 0 1=av [dI t]/\∃(u:SoI),u.inst=(↑k:Int)/\zC u.sd=t/\zD u.s=zD m.s/\(u.s.Rep u.p u.B/\u.B.length<=1000)/\∀(v:Unit),True->∃(w:lE),sb w.i.p.code=sb i.p.code/\iE w.i.p.months=iE i.p.months/\w.i.p.tick=i.p.tick/\w.i.p.low=i.p.low/\w.i.p.high=i.p.high/\w.i.p.wide=i.p.wide/\w.i.p.rule=i.p.rule/\w.i.p.top=i.p.top/\w.i.p.least=i.p.least/\w.i.p.part=i.p.part/\iE w.i.p.settle=iE i.p.settle/\aa z6 w.i.tops=aa z6 (aa kD i.B)/\w.i.inst=(↑k:Int)/\zC w.s=t/\(kL w)/\∀(x:Unit),True->∃(y:BsI),aa zJ y.l=aa zJ (xW w.i (zC w.s))/\y.s=t/\(dY y)/\∀(z:Unit),True->((aa yG (ab k (y5 i.p i.B))).length+1)*(112:Nat)<=(140737488355328:Nat)/\∃(a_1:Nat),(↑a_1:Int)=ao.wrap ((↑k:Int)+1)/\aa yG (ab a_1 (y5 i.p i.B))=aa yG (ab k (y5 i.p i.B))++[[D.ro 3 (aa lvE (bT m)),dI ((qH r.l r.s).fst.price),dI ((qH r.l r.s).fst.qty),dI ((qH r.l r.s).fst.count),D.v (.bool (qH r.l r.s).snd),D.ro 3 (aa lvE (bT u)),dI ((qH y.l y.s).fst.price),dI ((qH y.l y.s).fst.qty),dI ((qH y.l y.s).fst.count),D.v (.bool (qH y.l y.s).snd)]]/\dh (ag 6 (aa z6 (aa kD i.B)))/\h a_1/\j a_1<j k/\zD u.s=zD c/\dh (aj (Sx.V.agg [V.d uD]).cl 71)/\dh (aj [V.d (D.v (aw (sb i.p.code))),V.own 1,V.d (dI i.p.tick),V.d (dI i.p.low),V.d (dI i.p.high),V.d (dI i.p.wide),V.d (dI i.p.rule),V.d (dI i.p.top),V.d (dI i.p.least),V.d (dI i.p.part),V.own 2] 25)/\dh (ag 1 (iE i.p.settle))/\dh (ag 1 (iE i.p.months))) (∃(l:Unit),zD i.s=zD c/\aa yG (y5 i.p i.B)=aa yG (ab k (y5 i.p i.B))/\True))
def yZy (i:SbI):Prop:=
 ∃(i_1:SbI),i_1.s=i.s/\bE i_1.b=bE i.b/\i_1.b.length<=1099511627776/\∀(o:Unit),True->∃(o:Unit),(zQ i.s i.b).snd=(zQ i_1.s i_1.b).snd/\True
def yUu (g:Gt):Prop:=
 ∃(o:Unit),ak Mkt 5 yI g.m=qD g.m/\dh (y9 g.W)/\True
def yUt (m:Mkt):Prop:=
 ∃(o:Unit),dh (sb m.p.code)/\dh m.p.tick/\dh m.p.low/\dh m.p.high/\dh m.p.wide/\dh m.p.rule/\dh m.p.top/\dh m.p.least/\dh m.p.part/\zD m.s=yI m 1/\dh (zV m.used)/\ag 1 (iE m.p.months)=yI m 3/\ag 1 (iE m.p.settle)=yI m 4/\True
def lX (a:EdI):Prop:=sb a.p.code=sb a.p.code/\True/\dh a.p.tick/\dh a.p.low/\dh a.p.high/\dh a.p.wide/\dh a.p.rule/\dh a.p.top/\dh a.p.least/\dh a.p.part/\True/\True
def zAy (a:EdI):=(aa yG (y5 a.p (a.x.X a.p a.s a.b).B))
def z5l (a:EdI) (b:Mkt) (c:Gt) (d:List (List UInt8)) (e:GdI):Prop:=∃(f:LkI),sb f.p.code=sb a.p.code/\iE f.p.months=iE a.p.months/\f.p.tick=a.p.tick/\f.p.low=a.p.low/\f.p.high=a.p.high/\f.p.wide=a.p.wide/\f.p.rule=a.p.rule/\f.p.top=a.p.top/\f.p.least=a.p.least/\f.p.part=a.p.part/\iE f.p.settle=iE a.p.settle/\zD f.s=zD b.s/\(f.s.Rep f.p f.B/\BOk f.p f.B)/\∀(g:Unit),True->∃(h:DvI),aa yG h.v=aa yG (y5 a.p a.x.B)/\aa yG h.w=aa yG (y5 f.p f.B)/\h.seq=a.x.q/\(ae h.v=ae h.w/\((-4000000000000000000)<=h.seq/\h.seq<=4000000000000000000)/\h.v.levs<=100000000/\h.w.levs<=100000000/\ae h.v<=1000000)/\∀(j:Unit),True->∃(k:Mkt),dh (sb a.p.code)/\dh a.p.tick/\dh a.p.low/\dh a.p.high/\dh a.p.wide/\dh a.p.rule/\dh a.p.top/\dh a.p.least/\dh a.p.part/\a.x.q+(↑(a.x.M a.p a.s a.b).length:Int)=ao.wrap (a.x.q+(↑(aa xG (wM h.seq (j0 0 h.v h.w))).length:Int))/\sb k.p.code=sb b.p.code/\k.p.tick=b.p.tick/\k.p.low=b.p.low/\k.p.high=b.p.high/\k.p.wide=b.p.wide/\k.p.rule=b.p.rule/\k.p.top=b.p.top/\k.p.least=b.p.least/\k.p.part=b.p.part/\zD k.s=zD f.s/\zV k.used=zV b.used/\ag 1 (iE k.p.months)=ag 1 (iE b.p.months)/\ag 1 (iE k.p.settle)=ag 1 (iE b.p.settle)/\y9 (a.x.X a.p a.s a.b).W=y9 c.W/\dh (ag 1 (iE a.p.months))/\dh (ag 1 (iE a.p.settle))/\aa rcE (a.x.R++[tR a.s a.b])=aa rcE a.x.R++[[D.ro 1 (bE d.flatten)]]/\ag 10 (zAy a)=ag 10 (aa yG (y5 f.p f.B))/\aa qR a.O=aa qR e.X.O/\aa xG a.N=aa xG (wM h.seq (j0 0 h.v h.w))/\k.Rep a.p (a.x.X a.p a.s a.b).B (a.x.X a.p a.s a.b).U
def z3e (a:EdI) (b:Mkt) (c:Gt) (d:List (List UInt8)) (e:GdI):Prop:=(lX a)/\z5l a b c d e
def z2q (a:EdI) (b:Gt) (c:List (List UInt8)) (d:GdI):Prop:=(lX a)/\∃(e:Mkt),sb e.p.code=sb b.m.p.code/\e.p.tick=b.m.p.tick/\e.p.low=b.m.p.low/\e.p.high=b.m.p.high/\e.p.wide=b.m.p.wide/\e.p.rule=b.m.p.rule/\e.p.top=b.m.p.top/\e.p.least=b.m.p.least/\e.p.part=b.m.p.part/\zD e.s=zD b.m.s/\zV e.used=zV b.m.used/\ag 1 (iE e.p.months)=ag 1 (iE b.m.p.months)/\ag 1 (iE e.p.settle)=ag 1 (iE b.m.p.settle)/\True/\∀(f:Unit),True->z3e a e b c d
def zLs (a:GdI):Prop:=(a.g.m.Rep a.p a.B a.U/\BOk a.p a.B)/\a.b.length<=1099511627776/\a.X=aW a.p a.B a.U a.g.W a.s a.b
def Ved (i:EdI):Prop:=
 True/\True/\∃(a:List (List UInt8)),aa rcE a=[[D.ro 1 [[D.v (.int .u8 (ap.wrap i.s))]]],[D.ro 1 (bE i.b)]]/\(1<=a.flatten.length/\a.flatten.length<=1099511627776/\a.length<=1000)/\∀(b:Unit),True->True/\True/\((aa rcE i.x.R).length+1)*(24:Nat)<=(140737488355328:Nat)/\∃(c:GdI),c.s=i.s/\bE c.b=bE i.b/\GtR c.g=GtR i.g/\(zLs c)/\∀(d:Mkt),d.Rep c.p c.X.B c.X.U->(∃(e:Gt),qD e.m=qD d/\y9 e.W=y9 c.X.W/\True/\∀(f:Unit),True->(lX i)/\(∃(g:Mkt),sb g.p.code=sb e.m.p.code/\g.p.tick=e.m.p.tick/\g.p.low=e.m.p.low/\g.p.high=e.m.p.high/\g.p.wide=e.m.p.wide/\g.p.rule=e.m.p.rule/\g.p.top=e.m.p.top/\g.p.least=e.m.p.least/\g.p.part=e.m.p.part/\zD g.s=zD e.m.s/\zV g.used=zV e.m.used/\ag 1 (iE g.p.months)=ag 1 (iE e.m.p.months)/\ag 1 (iE g.p.settle)=ag 1 (iE e.m.p.settle)/\True/\∀(h:Unit),True->(lX i)/\(z5l i g e a c)/\z3e i g e a c)/\z2q i e a c)/\True/\(lX i)/\∃(e:Gt),qD e.m=qD d/\y9 e.W=y9 c.X.W/\True/\∀(f:Unit),True->z2q i e a c
def z8e {n lo hi:Int} (h:lo<=hi):lo<=zF n lo hi/\zF n lo hi<=hi:=by
 have h1:=xCa n (show hi-lo+1≠0 by omega);have h2:=xCb n (show 0<hi-lo+1 by omega);rw[zF];constructor<;>omega
open Classical in
open Classical in
def y2w {p:Prd} {v w:Vw} (hv:VwG p v) (hw:VwG p w):v.length=w.length/\Vw.levs v<=100000000/\Vw.levs w<=100000000/\v.length<=1000000:=by
 have h1:=yDw hv;have h2:=yDw hw;have h3:=hv.r.2;have h4:=hw.r.2;exact⟨by rw[hv.len,hw.len],oM,oM,oM⟩
def yXl (i:LkI) (h:lookOC.cnd i):yEo i:=by
 obtain⟨hR,hB⟩:i.s.Rep i.p i.B/\BOk i.p i.B:=h;have hcl:=xL i.p;have hbl:=hB.bl;have hcnt:i.s.cntOk:=hR.cnt oM;have hto:vN (i.B.map kD):=hB.tops;have hll:=zIg i.p i.B;unfold yEo fH bT kL fF dY dE uD z5 dI;refine⟨i.p,rF7 (rF3 ⟨rfl,hB.ps,λ_ _=>Cv.cnd.mk (λc=>absurd hB.pc (by simpa using c)) (λ_=>⟨i.s,rfl,hcnt,λ_ _=>⟨i.p,rF7 (rF3 ⟨rfl,hB.ps,λ_ _=>⟨0,rfl,rfl,by rw[hR.tops],λj=>j<=i.p.count,λj=>i.p.count-j,y7e _,λj hj=>zI (λhlt=> ?_) (λhlt=> ?_)⟩⟩)⟩⟩)⟩)⟩
 ·have hlt:j<i.p.count:=by omega
  have hat:atB i.B (j:Int)=i.B.getD j []:=by rw[atB,y5x (by omega),y6r]
  have hq:∀s,(xW ⟨i.p,i.B.map kD,j⟩ s).length<=1000000:=λs=>y8u (zKh _ _) Z8
  refine⟨⟨Z8,Z8⟩,1,rfl,⟨i.s,i.p,i.B,j,aq⟩,rfl,rfl,rfl,⟨hR,Z9⟩,λ_ _=>⟨⟨⟨i.p,i.B.map kD,j⟩,aq⟩,rF8 (rF5 ⟨rfl,⟨hB.ps,hto⟩,λ_ _=>⟨⟨xW ⟨i.p,i.B.map kD,j⟩ 1,1⟩,rfl,rfl,⟨.inl rfl,hq 1⟩,λ_ _=>⟨⟨Z8,Z8⟩,2,rfl,⟨i.s,i.p,i.B,j,ar⟩,rfl,rfl,rfl,⟨hR,Z9⟩,λ_ _=>⟨⟨⟨i.p,i.B.map kD,j⟩,ar⟩,rF8 (rF5 ⟨rfl,⟨hB.ps,hto⟩,λ_ _=>⟨⟨xW ⟨i.p,i.B.map kD,j⟩ 2,2⟩,rfl,rfl,⟨.inr rfl,hq 2⟩,λ_ _=>⟨?_,j+1,wjn oM,?_,rfl,Z9,Z9,rfl,k0q⟩⟩⟩)⟩⟩⟩⟩)⟩⟩
  ·rw[y5z,y6t];omega
  ·rw[y7h,yBu i.p i.B hlt,y9b,y6i,y6m,y9q];dsimp only;rw[hat];rfl
 ·have hj:j<=i.p.count:=hj;rw[y6k (by omega)];exact⟨(),k0q⟩
def zXd:lookOC.ok Tryz.prog 29:=okw mixed (gokc eE (gokc yPc (gokc bZ (gokc yNa (gokc zRx (gokc yOe gok0)))))) 1 (λ_=>[]) (λi=>y0n i) [] Tryz.func29 yXl
def z9c:gchkC.ok Tryz.prog 40:=okw (V:=yZy) mixed (gokc zYa gok0) 0 (λ_=>[]) (λ_=>[]) [] Tryz.func40 λ(i:SbI) h=>⟨i,rfl,rfl,h,λ_ _=>⟨(),rfl,trivial⟩⟩
def zSj:glookC.ok Tryz.prog 51:=okw (V:=yUu) mixed gok0 0 (λ_=>[]) (λ_=>[]) [] Tryz.func51 λ(g:Gt) _=>⟨(),rfl,rfl,trivial⟩
def z0d:mlookC.ok Tryz.prog 52:=okw (V:=yUt) mixed gok0 0 (λ_=>[]) (λ_=>[]) [] Tryz.func52 λ(m:Mkt) _=>⟨(),k0q⟩
def zXu {p:Prd} {B:List (List zH)} (h:BWf p B) (U:List Int) (W:List (Int×Int)) (s:Int) (b:List UInt8):BOk p (aW p B U W s b).B:=by
 rw[aW];split
 ·exact h.ok
 split
 ·exact h.ok
 rw[zBq];split
 ·exact h.ok
 split
 ·exact h.ok
 ·exact yTj h U _
def y1o {p:Prd} {v w:Vw} (hv:VwG p v) (hw:VwG p w):(j0 0 v w).length<=202000000:=by
 obtain⟨h1,h2,h3,h4⟩:=y2w hv hw;have:=yFv v w v.length (y6v _) oM;rw[y6k (y6v _),y6k (by omega)]at this;omega
def ved (i:EdI) (h:edC.cnd i):Ved i:=by
 obtain⟨o0,x,p,s,b⟩:=i;obtain⟨⟨hM,hB⟩,hb,⟨hs1,hs2⟩,⟨hq1,hq2⟩,hR⟩:(o0.Rep p x.B x.U/\BOk p x.B)/\b.length<=1048576/\(0<=s/\s<8)/\(0<=x.q/\x.q<=1000000000000000000)/\x.R.length<=1000000:=h;have hwf:=hM.s.wf hB;have hB2:BOk p (x.X p s b).B:=zXu hwf _ _ _ _;have hls:((lob s).toNat:Int)=ap.wrap s:=(zLh s).symm;unfold Ved zLs z2q z3e z5l zAy lX;dsimp only;refine⟨trivial,trivial,[[lob s],b],?_,⟨by simp,by simp;omega,by simp⟩,λ_ _=>⟨trivial,trivial,by rw[y5z];omega,⟨⟨o0,x.W⟩,p,x.B,x.U,s,b,x.X p s b⟩,rfl,rfl,rfl,⟨⟨hM,hB⟩,Z9,rfl⟩,λo ho=> ?_⟩⟩
 ·show[rcE [lob s],rcE b]=_;rw[rcE,rcE,<- hls];rfl
 have hv:=zVr hwf;have hw:=zVr (ho.s.wf hB2);obtain⟨g1,g2,g3,g4⟩:=y2w hv hw;have hl:=y1o hv hw;have er:aa rcE (x.R++[tR s b])=aa rcE x.R++[[D.ro 1 (bE [[lob s],b].flatten)]]:=by
  rw[y6i];simp[rcE,tR]
 have eq1:x.q+((x.M p s b).length:Int)=ao.wrap (x.q+(aa xG (wM x.q (x.M p s b))).length):=by
  have:(x.M p s b).length<=202000000:=hl;rw[y5z,nW,w64 (by omega)]
 refine⟨⟨⟨o,(x.X p s b).W⟩,rfl,rfl,trivial,λ_ _=>⟨k0q,⟨o,rF8 (rF4 ⟨rfl,trivial,λ_ _=>⟨k0q,?_,k0q,?_⟩⟩)⟩,k0q,o,rfl,rfl,rfl,rfl,rfl,rfl,rfl,rfl,rfl,rfl,rfl,rfl,rfl,trivial,λ_ _=>⟨k0q,?_⟩⟩⟩,trivial,k0q,⟨o,(x.X p s b).W⟩,rfl,rfl,trivial,λ_ _=>⟨k0q,o,rF8 (rF4 ⟨rfl,trivial,λ_ _=>⟨k0q,?_⟩⟩)⟩⟩
 all_goals exact⟨⟨o.s,p,(x.X p s b).B⟩,rF8 (rF3 ⟨rfl,⟨ho.s,hB2⟩,λ_ _=>⟨⟨y5 p x.B,y5 p (x.X p s b).B,x.q⟩,rfl,rfl,rfl,⟨g1,⟨Z9,Z9⟩,g2,g3,g4⟩,λ_ _=>⟨o,rF8 ⟨rfl,eq1,rF8 (rF7 ⟨rfl,er,rF3 ho⟩)⟩⟩⟩⟩)⟩
def yRb:edC.ok Tryz.prog 44:=okw mixed (gokc z7a (gokc yHd (gokc zSj (gokc z0d (gokc zXd (gokc yEx gok0)))))) 0 (λ_=>[]) (λ_=>[]) [] Tryz.func44 ved
structure EoI where
 o:Mkt
 x:Es
 p:Prd
 d:Dk
 s:Int
 b:List UInt8
def zXx (p:Prd) (x:Es) (o:Mkt) (d:Dk):List AObj:=[enC (x.en p) 4 7,jnR 3 x.R.length,GtR ⟨o,x.W⟩,DkR d,rcR x.R,.fro 1 (iE p.months),.fro 1 (iE p.settle),zKu (y5 p x.B)]
@[reducible] def EoI.ok (i:EoI):Prop:=(i.o.Rep i.p i.x.B i.x.U/\BOk i.p i.x.B)/\i.b.length<=254/\(-1<=i.s/\i.s<8)/\(0<=i.x.q/\i.x.q<=1000000000000000000)/\i.x.R.length<=1000000/\i.d.b.length+i.b.length+7<=1048576
def EoI.Y (i:EoI):Es:=i.x.ed i.p i.s i.b
def EoI.N (i:EoI):List zZp:=wM i.x.q (i.x.M i.p i.s i.b)
def EoI.O (i:EoI):List (Int×Rep):=(i.x.X i.p i.s i.b).O
def EoI.D (i:EoI):Dk:=⟨i.d.b++kF (tR i.s i.b),i.d.safe⟩
def edoC:Con where
 ι:=EoI
 pat:=λi=>[.nm 0 0,zA i.s,roV 1 (bE i.b)]
 pre:=λi=>zXx i.p i.x i.o i.d
 cnd:=λi=>i.ok
 alts:=λi=>[
  {o:=Mkt,res:=λ_=> .agg [.own 8,z5u],post:=λo=>zXx i.p i.x o i.d++[z2t [(i.s,⟨2,0,0,0,0,0,0,(zQ i.s i.b).2⟩)]],rel:=λo=>(zQ i.s i.b).2≠0/\o.Rep i.p i.x.B i.x.U},
  {o:=Mkt,res:=λ_=> .agg [.own 10,.own 11],post:=λo=>[enC (i.Y.en i.p) 8 9,jnR 3 i.Y.R.length,GtR ⟨o,i.Y.W⟩,DkR i.D,.gone,.fro 1 (iE i.p.months),.fro 1 (iE i.p.settle),.gone,rcR i.Y.R,zKu (y5 i.p i.Y.B),z2t i.O,yBa i.N],rel:=λo=>(zQ i.s i.b).2=0/\o.Rep i.p i.Y.B i.Y.U}]
def es0 (p:Prd):Es:=⟨af p.count [],[],[],0,[]⟩
def ySv (p:Prd) (x:Es) (r:List UInt8):Es:=x.ed p (r.headD 0).toNat r.tail
def wN (p:Prd) (L:List (List UInt8)):Es:=L.foldl (ySv p) (es0 p)
def ySw (r:List UInt8):Prop:=r≠[]/\(zQ (r.headD 0).toNat r.tail).2=0
structure EpI where
 p:Prd
 s:Nat
 L:List (List UInt8)
 t:List UInt8
def EpI.j (i:EpI):JoI:=⟨i.s,i.L,i.t⟩
@[reducible] def EpI.ok (i:EpI):Prop:=(i.p.check=0/\i.p.small)/\((ScI.mk i.L i.t).ok/\i.j.d.ok)/\(∀r∈i.L,ySw r)/\i.L.length<=100000
def enK (e:En):AObj:= .cells [sV e.p.code,.own 5,zA e.p.tick,zA e.p.low,zA e.p.high,zA e.p.wide,zA e.p.rule,zA e.p.top,zA e.p.least,zA e.p.part,.own 6,.nm 2 0,.nm 3 0,.own 7,zA e.q,.own 4] zQm
def eopC:Con where
 ι:=EpI
 pat:=λi=>[prdV i.p,.nm 0 0]
 pre:=λi=>[DkR i.j.d]
 cnd:=λi=>i.ok
 alts:=λi=>[{o:=Mkt,res:=λ_=> .tup [.nm 1 0,zA 0],post:=λo=>[DkR i.j.d',enK ((wN i.p i.L).en i.p),jnR 0 i.L.length,GtR ⟨o,(wN i.p i.L).W⟩,rcR (wN i.p i.L).R,.fro 1 (iE i.p.months),.fro 1 (iE i.p.settle),zKu (y5 i.p (wN i.p i.L).B)],rel:=λo=>o.Rep i.p (wN i.p i.L).B (wN i.p i.L).U}]
structure EpJ where
 o:Mkt
 x:Es
 k:Nat
def y3q (i:EpI):List SAnn:=[{ι:=EpJ,slots:=λj=>[(6,.nm 2 0),(10,.nm 0 0),(48,.own 8),(50,zA j.k)],rows:=λj=>[enC (j.x.en i.p) 4 7,jnR 3 i.L.length,GtR ⟨j.o,j.x.W⟩,DkR i.j.d',rcR j.x.R,.fro 1 (iE i.p.months),.fro 1 (iE i.p.settle),zKu (y5 i.p j.x.B),rcR i.L]}]
noncomputable def esnC:Con:=con1 En (λ_=>[.nm 0 0]) (λe=>[enC e 4 7,.gone,.gone,.gone,.gone,.gone,.gone,zKu e.v]) (λe=>l5 e.v) (λe=>roV 1 (bE (cT e.v e.q))) (λe=>[enC e 4 7,.gone,.gone,.gone,.gone,.gone,.gone,zKu e.v])
def zFq (a:EdI):Prop:=(a.o.Rep a.p a.x.B a.x.U/\BOk a.p a.x.B)/\a.b.length<=1048576/\(0<=a.s/\a.s<8)/\(0<=a.x.q/\a.x.q<=1000000000000000000)/\a.x.R.length<=1000000
def gA (a:EoI):=(aa yG (y5 a.p (a.x.X a.p a.s a.b).B))
def uC (a:EoI):=(a.x.R++[tR a.s a.b])
def hP (a:EoI):=(↑(uC a).length:Int)
def gB (a:EoI):=(↑(a.x.M a.p a.s a.b).length:Int)
def jK (a:EoI):=(aa yG (y5 a.p a.x.B))
def y0w (i:EoI):Prop:=
 ∃(a:SbI),a.s=i.s/\bE a.b=bE i.b/\a.b.length<=1099511627776/\∀(b:Unit),True->cnd ((zQ a.s a.b).snd !=0) (∃(c:GdI),c.s=i.s/\bE c.b=bE i.b/\GtR c.g=GtR (Gt.mk i.o i.x.W)/\(zLs c)/\∀(d:Mkt),d.Rep c.p c.X.B c.X.U->(∃(e:Mkt),True/\dh (sb i.p.code)/\dh i.p.tick/\dh i.p.low/\dh i.p.high/\dh i.p.wide/\dh i.p.rule/\dh i.p.top/\dh i.p.least/\dh i.p.part/\dh i.x.q/\dh ((↑i.x.R.length:Int))/\GtR (Gt.mk e i.x.W)=GtR (Gt.mk d c.X.W)/\dh (DkR i.d)/\dh (aa rcE i.x.R)/\dh (ag 1 (iE i.p.months))/\dh (ag 1 (iE i.p.settle))/\ag 10 (jK i)=zKu (y5 i.p i.x.B)/\[qR (i.s,Rep.mk 2 0 0 0 0 0 0 (zQ i.s i.b).snd)]=aa qR c.X.O/\(zQ i.s i.b).snd≠0/\e.Rep i.p i.x.B i.x.U)\/∃(o_1:Mkt),dh (sb i.p.code)/\dh i.p.tick/\dh i.p.low/\dh i.p.high/\dh i.p.wide/\dh i.p.rule/\dh i.p.top/\dh i.p.least/\dh i.p.part/\i.x.q+(gB i)=i.x.q/\(hP i)=(↑i.x.R.length:Int)/\GtR (Gt.mk o_1 (i.x.X i.p i.s i.b).W)=GtR (Gt.mk d c.X.W)/\DkR i.D=DkR i.d/\dh (ag 1 (iE i.p.months))/\dh (ag 1 (iE i.p.settle))/\aa rcE (uC i)=aa rcE i.x.R/\ag 10 (gA i)=zKu (y5 i.p i.x.B)/\aa qR i.O=aa qR c.X.O/\aa xG i.N=[]/\(zQ i.s i.b).snd=0/\o_1.Rep i.p (i.x.X i.p i.s i.b).B (i.x.X i.p i.s i.b).U) (True/\True/\∃(c:List (List UInt8)),aa rcE c=[[D.ro 1 [[D.v (.int .u8 (ap.wrap i.s))]]],[D.ro 1 (bE i.b)]]/\(1<=c.flatten.length/\c.flatten.length<=1099511627776/\c.length<=1000)/\∀(d:Unit),True->True/\∃(e:JaI),bE e.l=bE c.flatten/\e.n=(↑i.x.R.length:Int)/\DkR e.d=DkR i.d/\(e.l.length<=255/\e.d.b.length+e.l.length+(6:Nat)<=(1048576:Nat)/\0<=e.n/\e.n<=1048576)/\∀(f:Unit),True->∃(g:EdI),g.s=i.s/\bE g.b=bE i.b/\sb g.p.code=sb i.p.code/\g.p.tick=i.p.tick/\g.p.low=i.p.low/\g.p.high=i.p.high/\g.p.wide=i.p.wide/\g.p.rule=i.p.rule/\g.p.top=i.p.top/\g.p.least=i.p.least/\g.p.part=i.p.part/\g.x.q=i.x.q/\GtR g.g=GtR (Gt.mk i.o i.x.W)/\aa rcE g.x.R=aa rcE i.x.R/\ag 1 (iE g.p.months)=ag 1 (iE i.p.months)/\ag 1 (iE g.p.settle)=ag 1 (iE i.p.settle)/\ag 10 (aa yG (y5 g.p g.x.B))=zKu (y5 i.p i.x.B)/\(zFq g)/\∀(h:Mkt),h.Rep g.p (g.x.X g.p g.s g.b).B (g.x.X g.p g.s g.b).U->(∃(j:Mkt),False)\/∃(o_1:Mkt),sb i.p.code=sb g.p.code/\i.p.tick=g.p.tick/\i.p.low=g.p.low/\i.p.high=g.p.high/\i.p.wide=g.p.wide/\i.p.rule=g.p.rule/\i.p.top=g.p.top/\i.p.least=g.p.least/\i.p.part=g.p.part/\i.x.q+(gB i)=g.x.q+(↑(g.x.M g.p g.s g.b).length:Int)/\(hP i)=e.n+1/\GtR (Gt.mk o_1 (i.x.X i.p i.s i.b).W)=GtR (Gt.mk h (g.x.X g.p g.s g.b).W)/\DkR i.D=DkR (Dk.mk (e.d.b++kF e.l) e.d.safe)/\ag 1 (iE i.p.months)=ag 1 (iE g.p.months)/\ag 1 (iE i.p.settle)=ag 1 (iE g.p.settle)/\aa rcE (uC i)=aa rcE (g.x.R++[tR g.s g.b])/\ag 10 (gA i)=ag 10 (zAy g)/\aa qR i.O=aa qR g.O/\aa xG i.N=aa xG g.N/\(zQ i.s i.b).snd=0/\o_1.Rep i.p (i.x.X i.p i.s i.b).B (i.x.X i.p i.s i.b).U)
def nZ (a:EpI):Prop:=sb a.p.code=sb a.p.code/\True/\dh a.p.tick/\dh a.p.low/\dh a.p.high/\dh a.p.wide/\dh a.p.rule/\dh a.p.top/\dh a.p.least/\dh a.p.part/\True/\True
def zLy (a:JoI):Prop:=((∀(b:List UInt8),b∈a.L->b.length<=255)/\(zCd a.t).snd.snd=10/\(fsB a.L).length+a.t.length<=1048576)/\a.s<=(fsB a.L++a.t).length/\(fsB a.L++a.t).length<=1048576
def cL (a:EpI):=(aa yG (y5 a.p (wN a.p a.L).B))
def y0i (i:EpI):Prop:=
 ∃(a:Prd),sb a.code=sb i.p.code/\iE a.months=iE i.p.months/\a.tick=i.p.tick/\a.low=i.p.low/\a.high=i.p.high/\a.wide=i.p.wide/\a.rule=i.p.rule/\a.top=i.p.top/\a.least=i.p.least/\a.part=i.p.part/\iE a.settle=iE i.p.settle/\(z5 a)/\(∀(b:Unit),a.check=0->∃(c:JoI),DkR c.d=DkR i.j.d/\(zLy c)/\∀(d:Unit),True->∃(e:List Int),iE e=iE i.p.months/\e.length<=1000000/\∀(f:Unit),True->True/\∃(g:List Int),iE g=iE i.p.settle/\g.length<=1000000/\∀(h:Unit),True->∃(j:Gt),qD j.m=qD (Mkt.mk a (mI a) [])/\y9 j.W=y9 []/\True/\∀(k:Unit),True->(nZ i)/\(nZ i)/\∃(l:Mkt),sb l.p.code=sb j.m.p.code/\l.p.tick=j.m.p.tick/\l.p.low=j.m.p.low/\l.p.high=j.m.p.high/\l.p.wide=j.m.p.wide/\l.p.rule=j.m.p.rule/\l.p.top=j.m.p.top/\l.p.least=j.m.p.least/\l.p.part=j.m.p.part/\zD l.s=zD j.m.s/\zV l.used=zV j.m.used/\ag 1 (iE l.p.months)=ag 1 (iE j.m.p.months)/\ag 1 (iE l.p.settle)=ag 1 (iE j.m.p.settle)/\True/\∀(m:Unit),True->(nZ i)/\(nZ i)/\∃(n:LkI),sb n.p.code=sb i.p.code/\iE n.p.months=iE e/\n.p.tick=i.p.tick/\n.p.low=i.p.low/\n.p.high=i.p.high/\n.p.wide=i.p.wide/\n.p.rule=i.p.rule/\n.p.top=i.p.top/\n.p.least=i.p.least/\n.p.part=i.p.part/\iE n.p.settle=iE g/\zD n.s=zD l.s/\(n.s.Rep n.p n.B/\BOk n.p n.B)/\∀(p:Unit),True->(nZ i)/\∃(q:EpJ),(↑q.k:Int)=0/\dh (sb i.p.code)/\dh i.p.tick/\dh i.p.low/\dh i.p.high/\dh i.p.wide/\dh i.p.rule/\dh i.p.top/\dh i.p.least/\dh i.p.part/\q.x.q=0/\(↑i.L.length:Int)=(↑c.L.length:Int)/\sb q.o.p.code=sb l.p.code/\q.o.p.tick=l.p.tick/\q.o.p.low=l.p.low/\q.o.p.high=l.p.high/\q.o.p.wide=l.p.wide/\q.o.p.rule=l.p.rule/\q.o.p.top=l.p.top/\q.o.p.least=l.p.least/\q.o.p.part=l.p.part/\zD q.o.s=zD n.s/\zV q.o.used=zV l.used/\ag 1 (iE q.o.p.months)=ag 1 (iE l.p.months)/\ag 1 (iE q.o.p.settle)=ag 1 (iE l.p.settle)/\y9 q.x.W=y9 j.W/\DkR i.j.d'=DkR c.d'/\aa rcE q.x.R=[]/\ag 1 (iE i.p.months)=ag 1 (iE e)/\ag 1 (iE i.p.settle)=ag 1 (iE g)/\aa yG (y5 i.p q.x.B)=aa yG (y5 n.p n.B)/\aa rcE i.L=aa rcE c.L/\∃(r:EpJ->Prop),∃(s:EpJ->Nat),r q/\∀(t:EpJ),r t->cnd (decide ((↑t.k:Int)<(↑(aa rcE c.L).length:Int))) ((0<=(↑t.k:Int)/\(↑t.k:Int)<(↑(aa rcE i.L).length:Int))/\∃(u:List (List D)),zE (aa rcE i.L) (↑t.k:Int).toNat 0 1=av [D.ro 1 u]/\cnd ((↑u.length:Int)==0) (∃(v:Mkt),False) (((0:Int)<=(0:Int)/\0<(↑u.length:Int))/\∃(v:Int),zE u (au 0) 0 1=av [D.v (.int .u8 v)]/\((0:Int)<=(1:Int)/\1<=(↑u.length:Int))/\∃(w:SbI),w.s=ao.wrap v/\bE w.b=ac (au 1) u/\w.b.length<=1099511627776/\∀(x:Unit),True->cnd ((zQ w.s w.b).snd !=0) (∃(y:Mkt),False) (((0:Int)<=(0:Int)/\0<(↑u.length:Int))/\∃(y:Int),zE u (au 0) 0 1=av [D.v (.int .u8 y)]/\((0:Int)<=(1:Int)/\1<=(↑u.length:Int))/\∃(z:EdI),z.s=ao.wrap y/\bE z.b=ac (au 1) u/\sb z.p.code=sb i.p.code/\z.p.tick=i.p.tick/\z.p.low=i.p.low/\z.p.high=i.p.high/\z.p.wide=i.p.wide/\z.p.rule=i.p.rule/\z.p.top=i.p.top/\z.p.least=i.p.least/\z.p.part=i.p.part/\z.x.q=t.x.q/\GtR z.g=GtR (Gt.mk t.o t.x.W)/\aa rcE z.x.R=aa rcE t.x.R/\ag 1 (iE z.p.months)=ag 1 (iE i.p.months)/\ag 1 (iE z.p.settle)=ag 1 (iE i.p.settle)/\ag 10 (aa yG (y5 z.p z.x.B))=ag 10 (aa yG (y5 i.p t.x.B))/\(zFq z)/\∀(a_1:Mkt),a_1.Rep z.p (z.x.X z.p z.s z.b).B (z.x.X z.p z.s z.b).U->∃(a_2:EpJ),(↑a_2.k:Int)=ao.wrap ((↑t.k:Int)+1)/\sb i.p.code=sb z.p.code/\i.p.tick=z.p.tick/\i.p.low=z.p.low/\i.p.high=z.p.high/\i.p.wide=z.p.wide/\i.p.rule=z.p.rule/\i.p.top=z.p.top/\i.p.least=z.p.least/\i.p.part=z.p.part/\a_2.x.q=z.x.q+(↑(z.x.M z.p z.s z.b).length:Int)/\dh ((↑i.L.length:Int))/\GtR (Gt.mk a_2.o a_2.x.W)=GtR (Gt.mk a_1 (z.x.X z.p z.s z.b).W)/\dh (DkR i.j.d')/\aa rcE a_2.x.R=aa rcE (z.x.R++[tR z.s z.b])/\ag 1 (iE i.p.months)=ag 1 (iE z.p.months)/\ag 1 (iE i.p.settle)=ag 1 (iE z.p.settle)/\ag 10 (aa yG (y5 i.p a_2.x.B))=ag 10 (zAy z)/\dh (aa rcE i.L)/\r a_2/\s a_2<s t/\dh (ag 1 (iE l.p.months))/\dh (ag 1 (iE l.p.settle))/\dh (ag 1 (iE j.m.p.months))/\dh (ag 1 (iE j.m.p.settle))/\dh (ag 1 (iE g))/\dh (ag 1 (iE e))/\dh (aj [V.d (D.v (aw (sb i.p.code))),V.own 7,V.d (dI i.p.tick),V.d (dI i.p.low),V.d (dI i.p.high),V.d (dI i.p.wide),V.d (dI i.p.rule),V.d (dI i.p.top),V.d (dI i.p.least),V.d (dI i.p.part),V.own 8] 25)/\dh (ag 1 (iE i.p.settle))/\dh (ag 1 (iE i.p.months))))) (∃(u:Mkt),dh ((0:Int))/\dh (DkR i.j.d')/\dh (sb i.p.code)/\dh i.p.tick/\dh i.p.low/\dh i.p.high/\dh i.p.wide/\dh i.p.rule/\dh i.p.top/\dh i.p.least/\dh i.p.part/\(wN i.p i.L).q=t.x.q/\dh ((↑i.L.length:Int))/\GtR (Gt.mk u (wN i.p i.L).W)=GtR (Gt.mk t.o t.x.W)/\aa rcE (wN i.p i.L).R=aa rcE t.x.R/\dh (ag 1 (iE i.p.months))/\dh (ag 1 (iE i.p.settle))/\ag 10 (cL i)=ag 10 (aa yG (y5 i.p t.x.B))/\u.Rep i.p (wN i.p i.L).B (wN i.p i.L).U))/\∀(b:Unit),a.check≠0->cnd (a.check !=0) (∃(c:Mkt),False) (∃(c:JoI),DkR c.d=DkR i.j.d/\(zLy c)/\∀(d:Unit),True->∃(e:List Int),iE e=iE i.p.months/\e.length<=1000000/\∀(f:Unit),True->True/\∃(g:List Int),iE g=iE i.p.settle/\g.length<=1000000/\∀(h:Unit),True->∃(j:Gt),False)
def y3k (e:En):Prop:=
 ∃(i:zQx),aa yG i.v=aa yG e.v/\i.seq=e.q/\(ae i.v<=1099511627776/\∀(b:Sd×Sd),b∈i.v->b.fst.levels.length<=1099511627776/\b.snd.levels.length<=1099511627776)/\∀(o:Unit),True->∃(o:Unit),bE (cT e.v e.q)=bE (cT i.v i.seq)/\dh (sb e.p.code)/\dh e.p.tick/\dh e.p.low/\dh e.p.high/\dh e.p.wide/\dh e.p.rule/\dh e.p.top/\dh e.p.least/\dh e.p.part/\e.q=e.q/\ag 10 (aa yG e.v)=zKu e.v/\True
def yJw {s:Int} {b:List UInt8} (h:(zQ s b).2=0):0<=s/\s<8:=by
 rw[zQ]at h;split at h
 ·cases h
 ·omega
def y5p (i:EoI) (h:edoC.cnd i):y0w i:=by
 obtain⟨o0,x,p,d,s,b⟩:=i;obtain⟨⟨hM,hB⟩,hb,⟨hs1,hs2⟩,⟨hq1,hq2⟩,hR,hd⟩:(o0.Rep p x.B x.U/\BOk p x.B)/\b.length<=254/\(-1<=s/\s<8)/\(0<=x.q/\x.q<=1000000000000000000)/\x.R.length<=1000000/\d.b.length+b.length+7<=1048576:=h;have hls:((lob s).toNat:Int)=ap.wrap s:=(zLh s).symm;unfold y0w zAy zLs jK gB hP uC gA zFq;dsimp only;refine⟨⟨s,b⟩,rfl,rfl,Z9,λ_ _=>Cv.cnd.mk (λe=> ?_) (λe=> ?_)⟩
 ·have e:(zQ s b).2≠0:=by simpa using e
  exact⟨⟨⟨o0,x.W⟩,p,x.B,x.U,s,b,yAp x.B x.U x.W s 0 (zQ s b).2⟩,rfl,rfl,rfl,⟨⟨hM,hB⟩,Z9,by dsimp only;rw[zRl,y6a e]⟩,λo ho=> .inl ⟨o,trivial,rF8 (rF6 (rF3 ⟨rfl,e,ho⟩))⟩⟩
 ·have e:(zQ s b).2=0:=by simpa using e
  have hs:=yJw e;refine⟨trivial,trivial,[[lob s],b],?_,⟨by simp,by simp;omega,by simp⟩,λ_ _=>⟨trivial,⟨d,x.R.length,tR s b⟩,by simp[tR],rfl,rfl,⟨by simp[tR];omega,by simp[tR];omega,Z9,Z9⟩,λ_ _=>⟨⟨o0,x,p,s,b⟩,rF8 (rF8 ⟨rfl,⟨⟨hM,hB⟩,Z9,hs,⟨hq1,hq2⟩,hR⟩,λo ho=> .inr ⟨o,rF6 (rF3 ⟨rfl,by simp,rF7 ⟨rfl,e,ho⟩⟩)⟩⟩)⟩⟩⟩;show[rcE [lob s],rcE b]=_;rw[rcE,rcE,<- hls];rfl
def edo_ok:edoC.ok Tryz.prog 12:=okw mixed (gokc z9c (gokc yHd (gokc z7a (gokc yMs (gokc yRb gok0))))) 0 (λ_=>[]) (λ_=>[]) [] Tryz.func12 y5p
def yZd {p:Prd} {L:List (List UInt8)} {k:Nat} {r:List UInt8} (h:L[k]? =av r):wN p (L.take (k+1))=ySv p (wN p (L.take k)) r:=by
 rw[y7h,h,y9b,wN,xAu];rfl
def z7n {p:Prd} {x:Es} {o:Mkt} (hM:o.Rep p x.B x.U) (hB:BOk p x.B) (s:Int) (b:List UInt8) {o2:Mkt} (ho:o2.Rep p (x.X p s b).B (x.X p s b).U):
 BOk p (x.ed p s b).B/\x.q<=(x.ed p s b).q/\(x.ed p s b).q<=x.q+202000000/\(x.ed p s b).R.length=x.R.length+1:=by
 have hwf:=hM.s.wf hB;have hB2:BOk p (x.X p s b).B:=zXu hwf _ _ _ _;have:(x.M p s b).length<=202000000:=y1o (zVr hwf) (zVr (ho.s.wf hB2));refine⟨hB2,?_,?_,?_⟩
 ·show x.q<=x.q+((x.M p s b).length:Int);omega
 ·show x.q+((x.M p s b).length:Int)<=_;omega
 ·show(x.R++[tR s b]).length=_;rw[y5y];rfl
def y4h (i:EpI) (h:eopC.cnd i):y0i i:=by
 obtain⟨p,s,L,t⟩:=i;obtain⟨⟨hc,hsm⟩,⟨hs,hd⟩,hr,hl⟩:(p.check=0/\p.small)/\((ScI.mk L t).ok/\(JoI.mk s L t).d.ok)/\(∀r∈L,ySw r)/\L.length<=100000:=h;have hB0:BOk p (af p.count []):=BOk.new hc hsm;have hM0:=yPp p;have m6:=(kI hc).m6;have sl:=(kI hc).s1;have hml:(L.map rcE).length=L.length:=y5z _;unfold y0i cL zLy nZ zAy zFq z5 dI;dsimp only;refine⟨p,rF7 (rF3 ⟨rfl,hsm,λ_ _=>⟨⟨s,L,t⟩,rfl,⟨hs,hd⟩,λ_ _=>⟨p.months,rfl,oM,λ_ _=>⟨trivial,p.settle,rfl,oM,λ_ _=>⟨⟨mk0 p,[]⟩,rfl,rfl,trivial,λ_ _=>⟨k0q,k0q,mk0 p,rF8 (rF4 ⟨rfl,trivial,λ_ _=>⟨k0q,k0q,⟨(mk0 p).s,p,af p.count []⟩,rF8 (rF3 ⟨rfl,⟨hM0.s,hB0⟩,λ_ _=>⟨k0q,⟨mk0 p,es0 p,0⟩,rF8 (rF8 (rF8 (rF7 ⟨rfl,λj=>(j.k<=L.length/\j.x=wN p (L.take j.k))/\(j.o.Rep p j.x.B j.x.U/\BOk p j.x.B)/\(0<=j.x.q/\j.x.q<=202000000*(j.k:Int))/\j.x.R.length=j.k,λj=>L.length-j.k,⟨⟨y7e _,rfl⟩,⟨hM0,hB0⟩,⟨y9i _,y9i _⟩,rfl⟩,?_⟩)))⟩⟩)⟩⟩)⟩⟩⟩⟩⟩,λ_ hne=>absurd hc hne⟩)⟩;rintro⟨o,x,k⟩ ⟨⟨hk,hx⟩,⟨hM,hB⟩,⟨hq1,hq2⟩,hR⟩;dsimp only at hk hx hM hB hq1 hq2 hR ⊢;refine zI (λhlt=> ?_) (λhlt=> ?_)
 ·obtain⟨r,hrk⟩:=yC (l:=L) (i:=k) oM;have hrm:=y6j hrk;obtain⟨hne,hrd⟩:=hr r hrm;have hr255:=hs.1 r hrm;obtain⟨c,b,rfl⟩:∃c b,r=c::b:=by
   cases r with
   |nil=>exact absurd rfl hne
   |cons c b=>exact⟨c,b,rfl⟩
  have hrd:(zQ (c.toNat:Int) b).2=0:=hrd;have hc8:=yJw hrd;have wc:ao.wrap (c.toNat:Int)=c.toNat:=w64 oM;rw[y6d]at hr255;refine⟨⟨oM,oM⟩,bE (c::b),z2k hrk,Cv.cnd.mk (λe=>by have e:=beq_iff_eq.1 e;rw[xC,y6d]at e;omega) (λ_=>⟨⟨Z8,by rw[xC,y6d];omega⟩,c.toNat,dN rfl,⟨Z8,by rw[xC,y6d];omega⟩,⟨c.toNat,b⟩,wc.symm,rfl,Z9,λ_ _=>Cv.cnd.mk (λe=>by simp[hrd]at e) (λ_=>⟨⟨Z8,by rw[xC,y6d];omega⟩,c.toNat,dN rfl,⟨Z8,by rw[xC,y6d];omega⟩,⟨o,x,p,c.toNat,b⟩,wc.symm,rF8 (rF7 ⟨rfl,⟨⟨hM,hB⟩,Z9,hc8,⟨hq1,Z9⟩,Z9⟩,λo2 ho=> ?_⟩)⟩)⟩)⟩;obtain⟨t1,t2,t3,t4⟩:=z7n hM hB (c.toNat:Int) b ho;exact⟨⟨o2,x.ed p c.toNat b,k+1⟩,wjn oM,rF8 (rF6 (rF3 ⟨rfl,⟨⟨Z9,by dsimp only;rw[yZd hrk,<- hx];rfl⟩,⟨ho,t1⟩,⟨Z9,Z9⟩,Z9⟩,Z9,k0q⟩))⟩
 ·obtain rfl:k=L.length:=by omega
  rw[y8x]at hx;subst hx;exact⟨o,by repeat'(first|exact rfl|exact hM|apply And.intro)⟩
def yIi:eopC.ok Tryz.prog 18:=okw mixed (gokc yLy (gokc yXr (gokc yBm (gokc z1l (gokc zSj (gokc z0d (gokc zXd (gokc z9c (gokc yRb gok0))))))))) 0 (λ_=>[]) (λi=>y3q i) [] Tryz.func18 y4h
def esn_ok:esnC.ok Tryz.prog 10:=okw (V:=y3k) mixed (gokc yYb gok0) 0 (λ_=>[]) (λ_=>[]) [] Tryz.func10 λ(e:En) h=>⟨⟨e.v,e.q⟩,rfl,rfl,h,λ_ _=>⟨(),k0q⟩⟩
@[reducible] def z5y:Nat:=39
structure SdJ where
 x:Es
 o:Mkt
 d:Dk
 O:List (Int×Rep)
 N:List zZp
def y5j (p:Prd) (j:SdJ):List AObj:=zXx p j.x j.o j.d++[.cells [.own 9,.own 10] z5y,z2t j.O,yBa j.N]
def doJ (p:Prd) (e a:Nat):SAnn:={ι:=SdJ,slots0:=λ_=>[(e,.nm 0 0)],rows0:=λj=>zXx p j.x j.o j.d,slots:=λj=>[(e,.nm 0 0),(a,.nm 8 0)],rows:=y5j p}
def y3t (p:Prd):List AObj:=[.cells [sV p.code,.own 9,zA p.tick,zA p.low,zA p.high,zA p.wide,zA p.rule,zA p.top,zA p.least,zA p.part,.own 10] 25,.fro 1 (iE p.months),.fro 1 (iE p.settle)]
def yNx {t:TmI} (h:0<=t.i/\t.i<=1000000):1<=(xE t).id/\(xE t).id<=1099511627776:=by
 have:0<=zF t.c.id 0 30/\zF t.c.id 0 30<=30:=by rw[zF];omega
 rw[xE];split
 ·dsimp only;omega
 ·simp only[yZ];omega
def yJl {x:Prd} {c:Cmd} {k:Nat} (hk:k<=1000000):(xE ⟨kprod x,c,k⟩).right=0:=by
 have:=z2u x c k (xE ⟨kprod x,c,k⟩).id (yNx Z9);exact this
def zWa {c:Cmd} (h:c.right=0) (hl:c.label=[]):c.enc.length<=100:=by
 have e:c.enc=lob c.kind::(le c.id 8++c.tail):=by rw[Cmd.enc,y5x (by simp[h])]
 have ht:c.tail.length<=60:=by
  rw[Cmd.tail];split
  ·simp only[y6d,y5y,xV,tW,hl,y6t,y7s];omega
  split
  ·rw[xV];omega
  split
  ·rw[y5y,xV,xV];omega
  ·exact y7e _
 rw[e,y6d,y5y,xV];omega
def yDx (p:Prd) (B:List (List zH)) (U:List Int) (c:Cmd):∃r l,(doF p B U c).R=r::l/\(r.kind=2->(doF p B U c).B=B):=by
 rw[doF];split
 ·exact⟨_,_,rfl,λ_=>rfl⟩
 split
 ·rw[nB]
  iterate 5 (split;·exact⟨_,_,rfl,λ_=>rfl⟩)
  obtain⟨r,l,h1,h2,_⟩:=(z0e p B U c).2;exact⟨r,l,h1,λe=>by omega⟩
 split
 ·exact⟨_,_,rfl,λ_=>rfl⟩
 split
 ·rw[gC];split
  ·exact⟨_,_,rfl,λ_=>rfl⟩
  split
  ·rw[cC];exact⟨_,_,rfl,λe=>by simp at e⟩
  split
  ·exact⟨_,_,rfl,λ_=>rfl⟩
  rw[uP];exact⟨_,_,rfl,λe=>by simp at e⟩
 split
 ·rw[uP];exact⟨_,_,rfl,λe=>by simp at e⟩
 ·rw[cC];exact⟨_,_,rfl,λe=>by simp at e⟩
def z5m (p:Prd) (B:List (List zH)) (U:List Int) (W:List (Int×Int)) (s:Int) (b:List UInt8):∃o l,(aW p B U W s b).O=o::l/\(o.2.kind=2->(aW p B U W s b).B=B):=by
 rw[aW];split
 ·exact⟨_,_,rfl,λ_=>rfl⟩
 split
 ·exact⟨_,_,rfl,λ_=>rfl⟩
 rw[zBq];split
 ·exact⟨_,_,rfl,λ_=>rfl⟩
 split
 ·exact⟨_,_,rfl,λ_=>rfl⟩
 obtain⟨r,l,h1,h2⟩:=yDx p B U (xI b).1;dsimp only;rw[h1];dsimp only[mX];refine⟨_,_,rfl,λe=>h2 ?_⟩;exact e
def yLa (x:Es) (p:Prd) (s:Int) (b:List UInt8):∃o l,(x.X p s b).O=o::l/\(o.2.kind=2->x.M p s b=[]):=by
 obtain⟨o,l,h1,h2⟩:=z5m p x.B x.U x.W s b;refine⟨o,l,h1,λe=> ?_⟩;rw[Es.M,Es.X,h2 e];exact zWo 0 _
structure AnOk (p:Prd) (x:Es) (d:Dk) (j:SdJ):Prop where
 r:j.o.Rep p j.x.B j.x.U
 ok:BOk p j.x.B
 q1:x.q<=j.x.q
 q2:j.x.q<=x.q+202000000
 n:j.x.R.length<=x.R.length+1
 d:j.d.b.length<=d.b.length+107
 m:∃M:List VM,j.N=wM x.q M/\j.x.q=x.q+(M.length:Int)
 t:∃o l,j.O=o::l/\(o.2.kind=2->j.N=[])
def AnOk.bad {p:Prd} {x:Es} {d:Dk} {o:Mkt} (h1:o.Rep p x.B x.U) (h2:BOk p x.B) (s w:Int):AnOk p x d ⟨x,o,d,[(s,⟨2,0,0,0,0,0,0,w⟩)],[]⟩:=
 ⟨h1,h2,y9i _,Z9,Z9,Z9,⟨[],rfl,by simp⟩,⟨_,_,rfl,λ_=>rfl⟩⟩
def AnOk.good {p:Prd} {x:Es} {d:Dk} {o o2:Mkt} (h1:o.Rep p x.B x.U) (h2:BOk p x.B) {s:Int} {b:List UInt8} (hb:b.length<=100) (h3:o2.Rep p (x.X p s b).B (x.X p s b).U):
 AnOk p x d ⟨x.ed p s b,o2,⟨d.b++kF (tR s b),d.safe⟩,(x.X p s b).O,wM x.q (x.M p s b)⟩:=by
 obtain⟨t1,t2,t3,t4⟩:=z7n h1 h2 s b h3;refine⟨h3,t1,t2,t3,Z9,?_,⟨_,rfl,rfl⟩,?_⟩
 ·dsimp only;rw[y5y,dQ,tR,y6d];omega
 ·obtain⟨o,l,e1,e2⟩:=yLa x p s b;exact⟨o,l,e1,λe=>by rw[e2 e];rfl⟩
def clOwC:Con:=zUg 2
structure GcI where
 g:Gt
 p:Prd
 B:List (List zH)
 U:List Int
def gcpC:Con:=con1 GcI (λ_=>[.nm 0 0]) (λi=>[GtR i.g]) (λi=>i.g.m.Rep i.p i.B i.U/\BOk i.p i.B) (λ_=> .nm 1 0) (λi=>[GtR i.g,GtR i.g])
def gJ (p:Prd) (e:Nat):SAnn:={ι:=SdJ,slots0:=λ_=>[(e,.nm 0 0)],rows0:=λj=>zXx p j.x j.o j.d,slots:=λ_=>[(e,.nm 0 0)],rows:=λj=>zXx p j.x j.o j.d}
def ySi (es:List (ax×List D)):Prop:=
 ∃(i:List (ax×List D)),i=es/\True/\∀(o:Unit),True->∃(o:Unit),es=i/\es=i/\True
def yUw (es:List (ax×List D)):ySi es=walk Tryz.prog ([(146,vB 109)]) 0 ([]) ([]) [] Tryz.f109 (Tryz.f109.body.getD .skip) (clOwC.pat es) (clOwC.pre es) (clOwC.alts es):=by kernel_rfl
def yVu (hG:GOk Tryz.prog ([(146,vB 109)])) (h:∀(es:List (ax×List D)),clOwC.cnd es->ySi es):clOwC.ok Tryz.prog 109:=wT mixed ([(146,vB 109)]) hG 0 (λ(es:List (ax×List D))=>[]) (λ(es:List (ax×List D))=>[]) [] Tryz.func109 (by kernel_rfl) (by kernel_rfl) (by kernel_rfl) (λ_=>by kernel_rfl) (λ(es:List (ax×List D)) hc=>Eq.mp (yUw es) (h es hc))
def y3w (i:GcI):Prop:=
 ∃(i_1:MkB),ak Mkt 5 yI i_1.m=ak Mkt 5 yI i.g.m/\(i_1.m.Rep i_1.p i_1.B i_1.U/\BOk i_1.p i_1.B)/\∀(o:Unit),True->True/\∃(i_2:List (ax×List D)),i_2=y9 i.g.W/\True/\∀(o:Unit),True->∃(o:Unit),ak Mkt 5 yI i.g.m=ak Mkt 5 yI i_1.m/\y9 i.g.W=i_2/\ak Mkt 5 yI i.g.m=ak Mkt 5 yI i_1.m/\y9 i.g.W=i_2/\True
def yMp:clOwC.ok Tryz.prog 109:=yVu (gokc (zAi _) gok0) λes _=>⟨es,rfl,trivial,λ_ _=>⟨(),rfl,rfl,trivial⟩⟩
def gcp_ok:gcpC.ok Tryz.prog 54:=okw (V:=y3w) mixed (gokc zXw (gokc yMp gok0)) 0 (λ_=>[]) (λ_=>[]) [0] Tryz.func54 λ(i:GcI) h=>⟨⟨i.g.m,i.p,i.B,i.U⟩,rfl,h,λ_ _=>⟨trivial,y9 i.g.W,rfl,trivial,λ_ _=>⟨(),rF4 trivial⟩⟩⟩
structure AnE (p:Prd) (x:Es) (d:Dk) (s:Int) (b:List UInt8) (j:SdJ):Prop where
 a:AnOk p x d j
 c:((zQ s b).2≠0/\j.x=x/\j.d=d/\j.O=[(s,⟨2,0,0,0,0,0,0,(zQ s b).2⟩)]/\j.N=[])\/((zQ s b).2=0/\j.x=x.ed p s b/\j.d=⟨d.b++kF (tR s b),d.safe⟩/\j.O=(x.X p s b).O/\j.N=wM x.q (x.M p s b))
def AnE.bad {p:Prd} {x:Es} {d:Dk} {o:Mkt} (h1:o.Rep p x.B x.U) (h2:BOk p x.B) {s:Int} {b:List UInt8} (h:(zQ s b).2≠0):AnE p x d s b ⟨x,o,d,[(s,⟨2,0,0,0,0,0,0,(zQ s b).2⟩)],[]⟩:=⟨AnOk.bad h1 h2 s _,.inl ⟨h,rF3 rfl⟩⟩
def AnE.good {p:Prd} {x:Es} {d:Dk} {o o2:Mkt} (h1:o.Rep p x.B x.U) (h2:BOk p x.B) {s:Int} {b:List UInt8} (hb:b.length<=100) (h:(zQ s b).2=0) (h3:o2.Rep p (x.X p s b).B (x.X p s b).U):
 AnE p x d s b ⟨x.ed p s b,o2,⟨d.b++kF (tR s b),d.safe⟩,(x.X p s b).O,wM x.q (x.M p s b)⟩:=⟨AnOk.good h1 h2 hb h3,.inr ⟨h,rF3 rfl⟩⟩
def wtextC:Con:=con1 TxB (λi=>[.nm 0 0,sV i.s]) (λi=>[Wr i.l]) (λi=>i.l.length+300<=1099511627776/\i.s.length<=255) (λ_=>tH) (λi=>[Wr (i.l++tW i.s)])
def pencC:Con:=con1 Cmd (λc=>[zGc c]) (λ_=>[]) (λc=>c.label=[]/\c.right=0) (λc=> .tup [roV 1 (bE c.enc),zA 0]) (λ_=>[])
structure WhI where
 l:List Int
 k:Nat
def zEd (l:List Int) (k:Nat):Int:=match l[k]? with
 |some s=>zF s 0 3
 |none=>0
def whoC:Con:=con1 WhI (λi=>[roV 1 (iE i.l),zA i.k]) (λ_=>[]) (λi=>(∀s∈i.l,i64r s)/\i.k<=1000000) (λi=>zA (zEd i.l i.k)) (λ_=>[])
def tbyC:Con:=con1 TmI (λt=>[prdV t.p,zGc t.c,zA t.i]) (λ_=>[]) (λt=>(∃x,t.p=kprod x)/\t.c.raw/\0<=t.i/\t.i<=1000000) (λt=>roV 1 (bE (xE t).enc)) (λ_=>[])
def freC:Con where
 ι:=Prd
 pat:=λp=>[prdV p]
 pre:=λ_=>[]
 cnd:=λp=>p.check=0/\p.small
 alts:=λp=>[{o:=Mkt,res:=λ_=> .tup [.nm 0 0,.nm 3 0,yP ar],post:=λo=>zXx p (es0 p) o ⟨[],0⟩,rel:=λo=>o.Rep p (es0 p).B (es0 p).U}]
def awC:Con:=con1 Prd (λ_=>[]) (λ_=>[]) (λp=>p=f8 2) (λ_=>yP ar) (λ_=>[])
def yTq:List (Nat×SAnn):=[(4,{ι:=Unit,slots:=λ_=>[],rows:=λ_=>[],opn:=[0]})]
def awJ (p:Prd):List (Nat×SAnn):=[(20,doJ p 2 4),(24,doJ p 2 5),(28,doJ p 2 6)]
def zMn {s:Int} (h0:0<=s/\s<8) {c:Cmd} (h:c.right=0):(zQ s c.enc).2=0:=by
 rw[zQ,y5x (by omega),z7t h]
def kA1:Cmd:=⟨1,1,3,2,5,4,0,1,[]⟩
def kA2:Cmd:=⟨1,2,1,2,500,6,0,1,[]⟩
def kA3:Cmd:=⟨1,3,0,1,505,9,0,1,[]⟩
def yRa:kA1.right=0:=by decide+kernel
def ySj:kA2.right=0:=by decide+kernel
def ySb:kA3.right=0:=by decide+kernel
def aw1:Es:=(es0 (f8 2)).ed (f8 2) 0 kA1.enc
def aw2:Es:=aw1.ed (f8 2) 1 kA2.enc
def y3r:((es0 (f8 2)).X (f8 2) 0 kA1.enc).O.length=1:=by decide+kernel
def y4i:(aw1.X (f8 2) 1 kA2.enc).O.length=1:=by decide+kernel
def y3p:(aw2.X (f8 2) 2 kA3.enc).O.length=6/\((aw2.X (f8 2) 2 kA3.enc).O.getD 5 (0,⟨0,0,0,0,0,0,0,0⟩)).2=⟨3,3,0,1,505,4,5,0⟩/\(aw2.M (f8 2) 2 kA3.enc).length≠0:=by decide+kernel
structure TpI where
 x:Prd
 p:Prd
 l:List Cmd
 ss:List Int
@[reducible] def TpI.ok (i:TpI):Prop:=i.p=kprod i.x/\i.x.raw/\(∀c∈i.l,c.raw)/\(∀s∈i.ss,i64r s)/\i.l.length<=9223372036854775807/\i.ss.length<=9223372036854775807
def tpC:Con:=con1 TpI (λi=>[prdV i.x,roV 9 (i.l.map cmdE),roV 1 (iE i.ss)]) (λ_=>[]) (λi=>i.ok) (λ_=>yP ar) (λ_=>[])
structure TsJ where
 x:Es
 o:Mkt
 d:Dk
 k:Nat
def tnA (i:TpI):List SAnn:=[{ι:=TsJ,slots:=λj=>[(7,.nm 8 0),(8,.nm 0 0),(11,zA j.k)],rows:=λj=>zXx i.p j.x j.o j.d++y3t i.p}]
structure TnB where
 s:Int
 w:Int
 c:Cmd
def tnC:SAnn:={ι:=TnB,slots0:=λ_=>[(20,.nm 0 0)],rows0:=λ_=>[.cells cmd0.cells 44],slots:=λj=>[(12,zA j.s),(20,.nm 0 0),(21,zA j.w)],rows:=λj=>[.cells j.c.cells 44]}
def tnJ (i:TpI):List (Nat×SAnn):=[(24,bj 42),(36,gJ i.p 8),(11,tnC),(100,doJ i.p 8 24),(104,bj 154)]
end Sx
