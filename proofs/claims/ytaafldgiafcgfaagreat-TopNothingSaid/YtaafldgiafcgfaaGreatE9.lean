/- Texts of ours. No condition. -/
import Derived.Test.YtaafldgiafcgfaaGreatE8
set_option linter.all false
open List renaming map->aa,replicate->ab,take->ac
open Sx.AObj renaming fro->ae,objs->af,adt->ag,cells->aj,own->ak,map->am
open Bool renaming false->ao,true->ap
open Go.IntKind renaming i64->aq
open Option renaming some->ar,none->au
open Exists renaming intro->av
open And renaming intro->aw
namespace Sx
set_option maxRecDepth 100000
open Go Cv Go.Proofs
def zFm (a:Nat->Prop) (b:Nat) (c:Nat->Nat) (d:Nat) (e:BkL) (f:ArN):Prop:=a b/\c b<c d/\dh (aj [V.nm 1 0,V.own 2,V.own 3,V.mp 4,V.d (dI e.b.top1),V.d (dI e.b.top2),V.own 5,V.d (D.v (.bool e.b.has1)),V.d (D.v (.bool e.b.has2))] (245:TypeId))/\ag Arena 3 zG f.a=ag Arena 3 zG e.b.a/\dh (ak 255 2 (aa zB e.b.buys))/\dh (ak 255 2 (aa zB e.b.sells))/\dh (am (atE e.b.at_))/\dh (ak 3 1 (iE e.b.spare))
def bU (a:Nat) (b:BkL):=(ac a (hJ b.L (zC ao)))
def yRk (i:BkL):Prop:=
 ∃(a:Int),a=zC ao/\True/\∀(b:Unit),True->cnd (kA a) (∃(c:Unit),dh i.b.top1/\dh i.b.top2/\dh i.b.has1/\dh i.b.has2/\dh (ag Arena 3 zG i.b.a)/\dh (aa zB i.b.buys)/\dh (aa zB i.b.sells)/\dh (atE i.b.at_)/\dh (iE i.b.spare)/\aa lvE (hJ i.L (zC ao))=[]/\True) (∃(c:Nat),(↑c:Int)=0/\aa lvE (bU c i)=[]/\∃(d:Nat->Prop),∃(e:Nat->Nat),d c/\∀(f:Nat),d f->cnd (decide ((↑f:Int)<(↑(aa zB i.b.buys).length:Int))) ((0<=(↑f:Int)/\(↑f:Int)<(↑(aa zB i.b.buys).length:Int))/\∃(g:Int),∃(h:Int),zE (aa zB i.b.buys) (↑f:Int).toNat 0 2=ar [dI g,dI h]/\∃(j:ArN),j.n=h/\ag Arena 3 zG j.a=ag Arena 3 zG i.b.a/\True/\∀(k:Unit),True->h=h/\True/\g=g/\∃(l:ArN),l.n=h/\ag Arena 3 zG l.a=ag Arena 3 zG j.a/\True/\∀(m:Unit),True->g=g/\((aa lvE (bU f i)).length+1)*(24:Nat)<=(140737488355328:Nat)/\∃(n:Nat),(↑n:Int)=aq.wrap ((↑f:Int)+1)/\aa lvE (bU n i)=aa lvE (bU f i)++[[dI g,dI ((j.a.qAt j.n).total),dI ((l.a.qAt l.n).count)]]/\zFm d n e f i l) (∃(g:Unit),dh i.b.top1/\dh i.b.top2/\dh i.b.has1/\dh i.b.has2/\dh (ag Arena 3 zG i.b.a)/\dh (aa zB i.b.buys)/\dh (aa zB i.b.sells)/\dh (atE i.b.at_)/\dh (iE i.b.spare)/\aa lvE (hJ i.L (zC ao))=aa lvE (bU f i)/\True))
def b6 (a:Nat) (b:BkL):=(ac a (hJ b.L (zC ap)))
def yRy (i:BkL):Prop:=
 ∃(a:Int),a=zC ap/\True/\∀(b:Unit),True->cnd (kA a) (∃(c:Unit),dh i.b.top1/\dh i.b.top2/\dh i.b.has1/\dh i.b.has2/\dh (ag Arena 3 zG i.b.a)/\dh (aa zB i.b.buys)/\dh (aa zB i.b.sells)/\dh (atE i.b.at_)/\dh (iE i.b.spare)/\aa lvE (hJ i.L (zC ap))=[]/\True) (∃(c:Nat),(↑c:Int)=0/\aa lvE (b6 c i)=[]/\∃(d:Nat->Prop),∃(e:Nat->Nat),d c/\∀(f:Nat),d f->cnd (decide ((↑f:Int)<(↑(aa zB i.b.sells).length:Int))) ((0<=(↑f:Int)/\(↑f:Int)<(↑(aa zB i.b.sells).length:Int))/\∃(g:Int),∃(h:Int),zE (aa zB i.b.sells) (↑f:Int).toNat 0 2=ar [dI g,dI h]/\∃(j:ArN),j.n=h/\ag Arena 3 zG j.a=ag Arena 3 zG i.b.a/\True/\∀(k:Unit),True->h=h/\True/\g=g/\∃(l:ArN),l.n=h/\ag Arena 3 zG l.a=ag Arena 3 zG j.a/\True/\∀(m:Unit),True->g=g/\((aa lvE (b6 f i)).length+1)*(24:Nat)<=(140737488355328:Nat)/\∃(n:Nat),(↑n:Int)=aq.wrap ((↑f:Int)+1)/\aa lvE (b6 n i)=aa lvE (b6 f i)++[[dI g,dI ((j.a.qAt j.n).total),dI ((l.a.qAt l.n).count)]]/\zFm d n e f i l) (∃(g:Unit),dh i.b.top1/\dh i.b.top2/\dh i.b.has1/\dh i.b.has2/\dh (ag Arena 3 zG i.b.a)/\dh (aa zB i.b.buys)/\dh (aa zB i.b.sells)/\dh (atE i.b.at_)/\dh (iE i.b.spare)/\aa lvE (hJ i.L (zC ap))=aa lvE (b6 f i)/\True))
def rX (a:Nat×Top->Prop) (b:Nat×Top) (c:MSt) (d:Nat) (e:Book):Prop:=a b/\dh (ak 3 1 [[dI 1],[dI 2]])/\dh (xO c 0)/\af 197 Book 6 zR (c.books.set (↑d:Int).toNat e) au=xO c 1/\dh (xO c 2)/\dh (xO c 3)/\dh (xO c 4)
def zCz (a:MSt) (b:Nat×Top) (c:Nat×Top->Prop) (d:Nat) (e:Book):Prop:=∃(f:Nat×Top),aa z6 (xR a f.fst f.snd)=aa z6 (xR a b.fst b.snd)/\rX c f a d e
def yKq (s:MSt):Prop:=
 (zAz s)/\∃(a:Nat),(↑a:Int)=0/\aa z6 (x5 s a)=ab (↑s.books.length:Int).toNat [D.v (.bool ao),D.v (.bool ao),dI 0,dI 0,dI 0,dI 0]/\∃(b:Nat->Prop),∃(c:Nat->Nat),b a/\∀(d:Nat),b d->cnd (decide ((↑d:Int)<(↑s.books.length:Int))) ((0<=(↑d:Int)/\(↑d:Int)<(↑s.books.length:Int))/\(↑d:Int).toNat<s.books.length/\∃(e:Nat×Top),aa z6 (xR s e.fst e.snd)=aa z6 (x5 s d)/\∃(f:Nat×Top->Prop),(((0:Int)<=(0:Int)/\0<(↑(2:Nat):Int))/\∃(g:Int),zE [[dI 1],[dI 2]] (Int.toNat 0) 0 1=ar [dI g]/\∃(h:Book),s.books[(↑d:Int).toNat]?=ar h/\∃(j:BkS),zC j.side=g/\yA j.b=yA h/\(vK j)/\∀(k:Unit),True->∃(l:Book),yA j.b=yA l/\dh ((↑d:Int).toNat)/\(↑d:Int).toNat<s.books.length/\cnd (zY j).snd ((qV d s e)/\(qV d s e)/\(qV d s e)/\(↑d:Int).toNat<(uT s e).length/\(bY d s e)/\(bY d s e)/\dh ((zY j).fst.qty)/\dh ((zY j).fst.price)/\(↑d:Int).toNat<(bV s e d).length/\(l8 d s e j)/\dh ((zY j).fst.qty)/\(↑d:Int).toNat<(dO s e d j).length/\∃(m:Nat×Top),aa z6 (xR s m.fst m.snd)=zX (dO s e d j) (↑d:Int).toNat 4 [dI (uO j)]/\rX f m s d l) (zCz s e f d l))/\∀(g:Nat×Top),f g->∃(h:Nat×Top),aa z6 (xR s h.fst h.snd)=aa z6 (xR s g.fst g.snd)/\∃(j:Nat×Top->Prop),((fH)/\∃(k:Int),zE [[dI 1],[dI 2]] (aq.wrap ((0:Int)+(1:Int))).toNat 0 1=ar [dI k]/\∃(l:Book),s.books[(↑d:Int).toNat]?=ar l/\∃(m:BkS),zC m.side=k/\yA m.b=yA l/\(vK m)/\∀(n:Unit),True->∃(p:Book),yA m.b=yA p/\dh ((↑d:Int).toNat)/\(↑d:Int).toNat<s.books.length/\cnd (zY m).snd ((qV d s h)/\(qV d s h)/\(qV d s h)/\(↑d:Int).toNat<(uT s h).length/\(bP d s h)/\(bP d s h)/\dh ((zY m).fst.qty)/\dh ((zY m).fst.price)/\(↑d:Int).toNat<(bX s h d).length/\(l6 d s h m)/\dh ((zY m).fst.qty)/\(↑d:Int).toNat<(dA s h d m).length/\∃(q:Nat×Top),aa z6 (xR s q.fst q.snd)=zX (dA s h d m) (↑d:Int).toNat 5 [dI (uO m)]/\rX j q s d p) (zCz s h j d p))/\∀(k:Nat×Top),j k->∃(l:Nat),(↑l:Int)=aq.wrap ((↑d:Int)+1)/\aa z6 (x5 s l)=aa z6 (xR s k.fst k.snd)/\b l/\c l<c d/\dh (xO s 0)/\dh (xO s 1)/\dh (xO s 2)/\dh (xO s 3)/\dh (xO s 4)) (∃(e:Unit),dh (sb s.p.code)/\dh s.p.tick/\dh s.p.low/\dh s.p.high/\dh s.p.wide/\dh s.p.rule/\dh s.p.top/\dh s.p.least/\dh s.p.part/\af 197 Book 6 zR s.books au=xO s 1/\dh (yR s.wh)/\ae 1 (iE s.p.months)=xO s 3/\ae 1 (iE s.p.settle)=xO s 4/\aa z6 s.tops=aa z6 (x5 s d)/\True)
def zCm (a:MSt) (b:StI):Prop:=ae 1 (iE a.p.months)=ae 1 (iE b.s.p.months)/\ae 1 (iE a.p.settle)=ae 1 (iE b.s.p.settle)/\a.Rep b.p (qW b.B b.id b.q).fst
def zDi (a:MSt) (b:StI):Prop:=yR a.wh=yR b.s.wh/\zCm a b
def rN (a:StI) (b:Int) (c:Bool):Prop:=kC (Value.int aq a.id) (yR a.s.wh)=ar [dI b]/\c=ap\/kC (Value.int aq a.id) (yR a.s.wh)=au/\[dI b]=[dI 0]/\c=ao
def aX (a:StI):Prop:=∀(b:Value×List D),b∈yR a.s.wh->like (Value.int aq a.id) b.fst=ap
def yGu (i:StI):Prop:=
 (aX i)/\∃(a:Bool),∃(b:Int),(rN i b a)/\cnd (!a) (∃(c:MSt),(qW i.B i.id i.q).snd=26/\sb c.p.code=sb i.s.p.code/\c.p.tick=i.s.p.tick/\c.p.low=i.s.p.low/\c.p.high=i.s.p.high/\c.p.wide=i.s.p.wide/\c.p.rule=i.s.p.rule/\c.p.top=i.s.p.top/\c.p.least=i.s.p.least/\c.p.part=i.s.p.part/\af 197 Book 6 zR c.books au=af 197 Book 6 zR i.s.books au/\zDi c i) ((0<=b/\b<(↑i.s.books.length:Int))/\b.toNat<i.s.books.length/\∃(c:Book),i.s.books[b.toNat]?=ar c/\∃(d:FlI),d.id=i.id/\d.qty=i.q/\yA d.b=yA c/\d.b.Rep d.L/\∀(e:Book),e.Rep (xZ d.L d.id d.qty).fst->∃(f:Book),yA e=yA f/\dh b.toNat/\b.toNat<i.s.books.length/\(0<=b/\b<(↑(i.s.books.set b.toNat f).length:Int))/\b.toNat<(i.s.books.set b.toNat f).length/\∃(g:Book),(i.s.books.set b.toNat f)[b.toNat]?=ar g/\∃(h:FlI),h.id=i.id/\yA h.b=yA g/\h.b.Rep h.L/\∀(j:Unit),True->∃(k:Book),yA h.b=yA k/\dh b.toNat/\b.toNat<(i.s.books.set b.toNat f).length/\cnd (!wS h.L h.id) ((aX i)/\∃(l:MSt),(qW i.B i.id i.q).snd=(xZ d.L d.id d.qty).snd/\sb l.p.code=sb i.s.p.code/\l.p.tick=i.s.p.tick/\l.p.low=i.s.p.low/\l.p.high=i.s.p.high/\l.p.wide=i.s.p.wide/\l.p.rule=i.s.p.rule/\l.p.top=i.s.p.top/\l.p.least=i.s.p.least/\l.p.part=i.s.p.part/\af 197 Book 6 zR l.books au=af 197 Book 6 zR ((i.s.books.set b.toNat f).set b.toNat k) au/\yR l.wh=zBi (Value.int aq i.id) (yR i.s.wh)/\zCm l i) (∃(l:MSt),(qW i.B i.id i.q).snd=(xZ d.L d.id d.qty).snd/\sb l.p.code=sb i.s.p.code/\l.p.tick=i.s.p.tick/\l.p.low=i.s.p.low/\l.p.high=i.s.p.high/\l.p.wide=i.s.p.wide/\l.p.rule=i.s.p.rule/\l.p.top=i.s.p.top/\l.p.least=i.s.p.least/\l.p.part=i.s.p.part/\af 197 Book 6 zR l.books au=af 197 Book 6 zR ((i.s.books.set b.toNat f).set b.toNat k) au/\zDi l i))
def y0q (i:BkL) (h:lad1C.cnd i):yRk i:=by
 obtain⟨Q,c,ht,hL⟩:i.b.Rep i.L:=h;have hsm:=c.small;obtain⟨⟨ha1,ha2⟩,hb1,hb2,hsp⟩:=id hsm;have hlad:=c.lad (.inl rfl);rw[<- hL]at hlad;have hlad:hJ i.L (zC ao)=i.b.buys.map i.b.told:=hlad;unfold yRk zFm bU kA dI;simp only[hlad,y5z];refine⟨1,rfl,trivial,λ_ _=>Cv.cnd.mk (λe=>absurd e Z8) λ_=>⟨0,by(first|exact rfl|exact trivial),by(first|exact rfl|exact trivial),λj=>j<=i.b.buys.length,λj=>i.b.buys.length-j,y7e _,λj hj=>zI (λe=> ?_) (λe=> ?_)⟩⟩
 ·obtain⟨r,hr⟩:=yC (l:=i.b.buys) (i:=j) oM;have hi:=c.cnt;refine⟨⟨oM,oM⟩,r.price,r.queue,elA hr (by simp[zB]) rfl,⟨i.b.a,r.queue⟩,by(first|exact rfl|exact trivial),by(first|exact rfl|exact trivial),trivial,λ_ _=>⟨by(first|exact rfl|exact trivial),by(first|exact rfl|exact trivial),by(first|exact rfl|exact trivial),⟨i.b.a,r.queue⟩,by(first|exact rfl|exact trivial),by(first|exact rfl|exact trivial),by(first|exact rfl|exact trivial),λ_ _=>⟨by(first|exact rfl|exact trivial),by simp only[y6t,y5z];omega,j+1,wjn oM,?_,oM,Z9,k0q⟩⟩⟩;have hrt:(i.b.buys.map i.b.told)[j]? =ar (i.b.told r):=by rw[y7p,hr];rfl
  rw[y7h,hrt];simp[lvE,Book.told]
 ·rw[y6k (by rw[y5z];omega)];exact⟨(),k0q⟩
def yNl:lad1C.ok Tryz.prog 128:=okw mixed (gokc eU (gokc zHw (gokc nY gok0))) 1 (λ_=>[]) (λi=>yYw ao i) [0] Tryz.func128 y0q
def y0v (i:BkL) (h:lad2C.cnd i):yRy i:=by
 obtain⟨Q,c,ht,hL⟩:i.b.Rep i.L:=h;have hsm:=c.small;obtain⟨⟨ha1,ha2⟩,hb1,hb2,hsp⟩:=id hsm;have hlad:=c.lad (.inr rfl);rw[<- hL]at hlad;have hlad:hJ i.L (zC ap)=i.b.sells.map i.b.told:=hlad;unfold yRy b6 zFm kA dI;simp only[hlad,y5z];refine⟨2,rfl,trivial,λ_ _=>Cv.cnd.mk (λe=>absurd e Z8) λ_=>⟨0,by(first|exact rfl|exact trivial),by(first|exact rfl|exact trivial),λj=>j<=i.b.sells.length,λj=>i.b.sells.length-j,y7e _,λj hj=>zI (λe=> ?_) (λe=> ?_)⟩⟩
 ·obtain⟨r,hr⟩:=yC (l:=i.b.sells) (i:=j) oM;have hi:=c.cnt;refine⟨⟨oM,oM⟩,r.price,r.queue,elA hr (by simp[zB]) rfl,⟨i.b.a,r.queue⟩,by(first|exact rfl|exact trivial),by(first|exact rfl|exact trivial),trivial,λ_ _=>⟨by(first|exact rfl|exact trivial),by(first|exact rfl|exact trivial),by(first|exact rfl|exact trivial),⟨i.b.a,r.queue⟩,by(first|exact rfl|exact trivial),by(first|exact rfl|exact trivial),by(first|exact rfl|exact trivial),λ_ _=>⟨by(first|exact rfl|exact trivial),by simp only[y6t,y5z];omega,j+1,wjn oM,?_,oM,Z9,k0q⟩⟩⟩;have hrt:(i.b.sells.map i.b.told)[j]? =ar (i.b.told r):=by rw[y7p,hr];rfl
  rw[y7h,hrt];simp[lvE,Book.told]
 ·rw[y6k (by rw[y5z];omega)];exact⟨(),k0q⟩
def yLq:lad2C.ok Tryz.prog 128:=okw mixed (gokc eU (gokc zHw (gokc nY gok0))) 1 (λ_=>[]) (λi=>yYw ap i) [0] Tryz.func128 y0v
def yYt:ladC.ok Tryz.prog 128:=λj=>match j with
 |⟨b,L,ao⟩=>yNl ⟨b,L⟩
 |⟨b,L,ap⟩=>yLq ⟨b,L⟩
def yYe (s:MSt) (h:topsOC.cnd s):yKq s:=by
 obtain⟨h1,h2⟩:s.cntOk:=h;unfold yKq uO qV vK fH bY bP zAz l8 dO bV l6 dA dX zY bX uT zCz rX dI;have p48:(2:Int) ^ (48:Nat)=281474976710656:=by decide
 refine⟨⟨oM,oM,oM,by rw[p48];omega⟩,0,rfl,?_,λj=>j<=s.books.length,λj=>s.books.length-j,oM,λj hj=>zI (λhlt=> ?_) (λhlt=> ?_)⟩
 ·rw[x5,y6i,List.map_replicate];rfl
 ·have hj':j<s.books.length:=by omega
  obtain⟨b,hb⟩:=yC hj';have hc:=h2 b (y6j hb);simp only[y6r];have ha:∀x,(aa z6 (xR s j x)).length=s.books.length:=λx=>by rw[y5z,zQd hj']
  have w1:aq.wrap (0+1)=1:=by decide
  have w2:(0+1) % ((2:Int) ^ aq.bits).natAbs=1:=by decide
  refine⟨⟨oM,oM⟩,oM,(j,top0),by rw[zJw hj'],λx=>x=(j,top0.buy (b.best b.buys)),⟨⟨Z8,Z8⟩,1,rfl,b,hb,⟨ao,b⟩,rfl,rfl,hc,λ_ _=>⟨b,rfl,kp,oM,?_⟩⟩,?_⟩
  ·refine Cv.cnd.mk (λc=> ?_) (λc=> ?_)
   ·have c:(b.best b.buys).2=ap:=c;have e1:=qZ (s:=s) hj' (x:=top0) (y:={top0 with has1:=ap}) (f:=0+0+0*1) (ds:=[D.v (.bool ap)]) rfl;have e2:=qZ (s:=s) hj' (x:={top0 with has1:=ap}) (y:={top0 with has1:=ap,p1:=(b.best b.buys).1.price}) (f:=0+2+0*1) (ds:=[D.v (.int .i64 (b.best b.buys).1.price)]) rfl;have e3:=qZ (s:=s) hj' (x:={top0 with has1:=ap,p1:=(b.best b.buys).1.price}) (y:={top0 with has1:=ap,p1:=(b.best b.buys).1.price,q1:=(b.best b.buys).1.qty}) (f:=0+4+0*1) (ds:=[D.v (.int .i64 (b.best b.buys).1.qty)]) rfl;dsimp only;simp only[show b.side ao=b.buys from rfl,e1,e2,e3,ha]
    (repeat'(first|exact rfl|exact trivial|assumption|apply aw|refineλ(_:Unit) (_:True)=>?_|refine av () ?_|omega|(dsimp only;omega)))
    refine⟨(j,{top0 with has1:=ap,p1:=(b.best b.buys).1.price,q1:=(b.best b.buys).1.qty}),rfl,?_,?_⟩
    ·rw[Top.buy,y6a c]
    ·(repeat'(first|exact rfl|exact trivial|assumption|apply aw|refineλ(_:Unit) (_:True)=>?_|refine av () ?_|omega|(dsimp only;omega)))
     rw[fV hb];rfl
   ·have c:(b.best b.buys).2=ao:=c;refine⟨(j,top0),rfl,?_,?_⟩
    ·rw[Top.buy,y5x (by rw[c];simp)]
    ·(repeat'(first|exact rfl|exact trivial|assumption|apply aw|refineλ(_:Unit) (_:True)=>?_|refine av () ?_|omega|(dsimp only;omega)))
     rw[fV hb];rfl
  ·rintro _ rfl;rw[w1];generalize hx:top0.buy (b.best b.buys)=x;have hx2:b.top=x.sell (b.best b.sells):=by rw[Book.top,hx]
   refine⟨(j,x),rfl,λy=>y=(j,b.top),⟨⟨Z8,Z8⟩,2,rfl,b,hb,⟨ap,b⟩,rfl,rfl,hc,λ_ _=>⟨b,rfl,kp,oM,?_⟩⟩,?_⟩
   ·refine Cv.cnd.mk (λc=> ?_) (λc=> ?_)
    ·have c:(b.best b.sells).2=ap:=c;have e1:=qZ (s:=s) hj' (x:=x) (y:={x with has2:=ap}) (f:=0+0+1*1) (ds:=[D.v (.bool ap)]) rfl;have e2:=qZ (s:=s) hj' (x:={x with has2:=ap}) (y:={x with has2:=ap,p2:=(b.best b.sells).1.price}) (f:=0+2+1*1) (ds:=[D.v (.int .i64 (b.best b.sells).1.price)]) rfl;have e3:=qZ (s:=s) hj' (x:={x with has2:=ap,p2:=(b.best b.sells).1.price}) (y:={x with has2:=ap,p2:=(b.best b.sells).1.price,q2:=(b.best b.sells).1.qty}) (f:=0+4+1*1) (ds:=[D.v (.int .i64 (b.best b.sells).1.qty)]) rfl;dsimp only;simp only[w2,show b.side ap=b.sells from rfl,e1,e2,e3,ha]
     (repeat'(first|exact rfl|exact trivial|assumption|apply aw|refineλ(_:Unit) (_:True)=>?_|refine av () ?_|omega|(dsimp only;omega)))
     refine⟨(j,{x with has2:=ap,p2:=(b.best b.sells).1.price,q2:=(b.best b.sells).1.qty}),rfl,?_,?_⟩
     ·rw[hx2,Top.sell,y6a c]
     ·(repeat'(first|exact rfl|exact trivial|assumption|apply aw|refineλ(_:Unit) (_:True)=>?_|refine av () ?_|omega|(dsimp only;omega)))
      rw[fV hb];rfl
    ·have c:(b.best b.sells).2=ao:=c;refine⟨(j,x),rfl,?_,?_⟩
     ·rw[hx2,Top.sell,y5x (by rw[c];simp)]
     ·(repeat'(first|exact rfl|exact trivial|assumption|apply aw|refineλ(_:Unit) (_:True)=>?_|refine av () ?_|omega|(dsimp only;omega)))
      rw[fV hb];rfl
   ·rintro _ rfl;refine⟨j+1,by rw[w64 (by omega)];rfl,?_⟩;refine⟨by dsimp only;rw[zKl hb],?_⟩;exact kp
 ·have hj:j<=s.books.length:=hj;obtain rfl:j=s.books.length:=by omega
  have e:x5 s s.books.length=s.tops:=by
   rw[x5,xBo,List.replicate_zero,y6w,y6k (by rw[MSt.tops,y5z];omega)]
  rw[e];exact kp
def zYf:topsOC.ok Tryz.prog 76:=okw mixed (gokc zLl gok0) 0 (λs=>yQt s) (λs=>ySu s) [] Tryz.func76 yYe
def yWu (i:StI) (h:stakeC.cnd i):yGu i:=by
 obtain⟨hR,hB⟩:i.s.Rep i.p i.B/\i.B.length<=1000:=h;have hat:=hR.at_ i.id;unfold yGu aX rN zDi zCm dI;cases hi:aU i.B i.id with
 |none=>
  rw[hi]at hat;refine⟨dU _ _,ao,0,.inr ⟨by rw[pB,hat];rfl,rfl,rfl⟩,Cv.cnd.mk (λ_=>⟨i.s,?_⟩) (λe=>absurd e Z8)⟩;have ht:qW i.B i.id i.q=(i.B,26):=by rw[qW,hi]
  rw[ht];exact(rF8 (rF6 hR))
 |some k=>
  rw[hi]at hat;obtain⟨L,hL,hh⟩:=wX hi;have hk:=(y6c.1 hL).1;obtain⟨b,hb⟩:=yC (l:=i.s.books) (i:=k) (by rw[hR.bl];exact hk);have hbR:=hR.bk k b L hb hL;have hbl:=hR.bl;have hnd:=hbR.ords.2.1;refine⟨dU _ _,ap,k,.inl ⟨by rw[pB,hat];rfl,rfl⟩,Cv.cnd.mk (λe=>absurd e Z8) (λ_=> ?_)⟩;rw[y6r];refine⟨⟨oM,oM⟩,oM,b,hb,⟨b,L,i.id,i.q⟩,rfl,rfl,rfl,hbR,λb' hb'=> ?_⟩;have hT:=hR.take (q:=i.q) hi hL hnd hb';have hk2:(qW i.B i.id i.q).2=(xZ L i.id i.q).2:=by simp only[qW,hi,zT hL]
  refine⟨b',rfl,rfl,oM,by rw[y7g];omega,by rw[y7g];omega,b',fT oM,⟨b',(xZ L i.id i.q).1,i.id,0⟩,rfl,rfl,hb',λ_ _=>⟨b',rfl,rfl,by rw[y7g];omega,Cv.cnd.mk (λe=>⟨dU _ _,?_⟩) (λe=> ?_)⟩⟩
  ·have e:wS (xZ L i.id i.q).1 i.id=ao:=by simpa using e
   rw[e,y5x (by decide)]at hT;refine⟨{i.s with books:=i.s.books.set k b',wh:=z5q i.id i.s.wh},hk2,rF8 ⟨rfl,?_,(z1b _ _).symm,rfl,rfl,hT⟩⟩;rw[xAa]
  ·have e:wS (xZ L i.id i.q).1 i.id=ap:=by simpa using e
   rw[e,y6a rfl]at hT;refine⟨{i.s with books:=i.s.books.set k b',wh:=i.s.wh},hk2,rF8 ⟨rfl,?_,rfl,rfl,rfl,hT⟩⟩;rw[xAa]
def zGb:stakeC.ok Tryz.prog 169:=okw mixed (gokc yLo (gokc z0r gok0)) 0 (λ_=>[]) (λ_=>[]) [0] Tryz.func169 yWu
structure BOk (p:Prd) (B:List (List zH)):Prop where
 pc:p.check=0
 ps:p.small
 bl:B.length=p.count
 pr:∀(k:Nat) (L:List zH),B[k]? =ar L->∀o∈L,p.price k o.price=0
def motherC:Con:=con1 Bool (λb=>[zA (zC b)]) (λ_=>[]) (λ_=>True) (λb=>zA (zC (!b))) (λ_=>[])
def cX (s:Bool) (p x:Int):Bool:=if s then decide (p<=x)else decide (x<=p)
structure GoI where
 s:Bool
 p:Int
 x:Int
def mgoodC:Con:=con1 GoI (λi=>[zA (zC i.s),zA i.p,zA i.x]) (λ_=>[]) (λ_=>True) (λi=>yP (cX i.s i.p i.x)) (λ_=>[])
def yU (p:Prd) (B:List (List zH)) (inst:Int) (s:Int):Quote×Bool×Bool:=
 let bq:=zW (xW ⟨p,B.map kD,inst⟩ s) s
 let l:=bestL (B.getD inst.toNat []) s
 if(l.2 && !(bq.2 && btr s bq.1.price l.1.price))=ap then(⟨l.1.price,l.1.qty,⟨0,0⟩,⟨0,0⟩⟩,ao,ap)else(bq.1,bq.2,bq.2)
structure NxI where
 s:MSt
 p:Prd
 B:List (List zH)
 inst:Int
 sd:Bool
def nextC:Con:=con1 NxI (λi=>[.nm 0 0,zA i.inst,zA (zC i.sd)]) (λi=>[zD i.s]) (λi=>i.s.Rep i.p i.B/\BOk i.p i.B/\0<=i.inst/\i.inst<i.B.length)
 (λi=> .tup [zUd (yU i.p i.B i.inst (zC i.sd)).1,yP (yU i.p i.B i.inst (zC i.sd)).2.1,yP (yU i.p i.B i.inst (zC i.sd)).2.2]) (λi=>[zD i.s])
structure cK where
 id:Int
 inst:Int
 side:Int
 price:Int
 qty:Int
 left:Int
 deriving DecidableEq
def yX (f:cK):List D:=[.v (.int .i64 f.id),.v (.int .i64 f.inst),.v (.int .i64 f.side),.v (.int .i64 f.price),.v (.int .i64 f.qty),.v (.int .i64 f.left)]
def xX (inst s:Int):List zH->List Int->List cK
 |o::os,k::ks=>if 0<k then⟨o.id,inst,s,o.price,k,o.qty-k⟩::xX inst s os ks else xX inst s os ks
 |_,_=>[]
def kW (B:List (List zH)) (fs:List cK):List (List zH):=fs.foldl (λB f=>(qW B f.id f.qty).1) B
def zVp (B:List (List zH)) (inst s:Int):List zH:=atL (B.getD inst.toNat []) s (bestL (B.getD inst.toNat []) s).1.price
def qX (p:Prd) (B:List (List zH)) (inst s q:Int):List cK:=xX inst s (zVp B inst s) (kH ⟨p,zVp B inst s,q⟩)
structure TrI where
 s:MSt
 p:Prd
 B:List (List zH)
 inst:Int
 sd:Bool
 q:Int
def TrI.os (i:TrI):List zH:=zVp i.B i.inst (zC i.sd)
def TrI.sh (i:TrI):List Int:=kH ⟨i.p,i.os,i.q⟩
def TrI.fs (i:TrI) (j:Nat):List cK:=xX i.inst (zC i.sd) (i.os.take j) (i.sh.take j)
def tradeC:Con where
 ι:=TrI
 pat:=λi=>[.nm 0 0,.agg [zA i.inst,zA (zC i.sd)],zA i.q]
 pre:=λi=>[zD i.s]
 cnd:=λi=>i.s.Rep i.p i.B/\BOk i.p i.B/\0<=i.inst/\i.inst<i.B.length/\i64r i.q
 alts:=λi=>[{o:=MSt,res:=λ_=> .own 1,post:=λs=>[zD s,.own 302 6 ((qX i.p i.B i.inst (zC i.sd) i.q).map yX)],rel:=λs=>s.Rep i.p (kW i.B (qX i.p i.B i.inst (zC i.sd) i.q))}]
def yWd (i:TrI):List SAnn:=[{ι:=Nat×MSt,slots:=λj=>[(0,.nm 0 0),(11,.own 1),(44,zA j.1)],rows:=λj=>[zD j.2,.own 302 6 ((i.fs j.1).map yX)]}]
def yAd (b:Bool):Prop:=
 ∃(a:Unit),(zC !b)=aq.wrap (3-zC b)/\True
def yIs (i:GoI):Prop:=
 cnd (zC i.s==1) (cnd (decide (i.x<=i.p)) (∃(a:Unit),cX i.s i.p i.x=ap/\True) (cnd (zC i.s==2) (∃(a:Unit),cX i.s i.p i.x=decide (i.x>=i.p)/\True) (∃(a:Unit),cX i.s i.p i.x=ao/\True))) (cnd (zC i.s==2) (∃(a:Unit),cX i.s i.p i.x=decide (i.x>=i.p)/\True) (∃(a:Unit),cX i.s i.p i.x=ao/\True))
def zIh (a:MSt) (b:NxI):Prop:=sb a.p.code=sb b.s.p.code/\True/\a.p.tick=b.s.p.tick/\a.p.low=b.s.p.low/\a.p.high=b.s.p.high/\a.p.wide=b.s.p.wide/\a.p.rule=b.s.p.rule/\a.p.top=b.s.p.top/\a.p.least=b.s.p.least/\a.p.part=b.s.p.part/\True/\True
def dY (a:BsI):Prop:=(a.s=1\/a.s=2)/\a.l.length<=1000000
def zJa (a:NxI) (b:MSt) (c:Book):Prop:=sb a.s.p.code=sb b.p.code/\a.s.p.tick=b.p.tick/\a.s.p.low=b.p.low/\a.s.p.high=b.p.high/\a.s.p.wide=b.p.wide/\a.s.p.rule=b.p.rule/\a.s.p.top=b.p.top/\a.s.p.least=b.p.least/\a.s.p.part=b.p.part/\af 197 Book 6 zR a.s.books au=af 197 Book 6 zR (b.books.set a.inst.toNat c) au/\yR a.s.wh=yR b.wh/\ae 1 (iE a.s.p.months)=ae 1 (iE b.p.months)/\ae 1 (iE a.s.p.settle)=ae 1 (iE b.p.settle)/\True
def z8 (a:NxI):=(yU a.p a.B a.inst (zC a.sd))
def zMm (a:NxI) (b:BsI) (c:MSt) (d:Book):Prop:=∃(e:Unit),(z8 a).fst.price=(zW b.l b.s).fst.price/\(z8 a).fst.qty=(zW b.l b.s).fst.qty/\(z8 a).fst.a.inst=(zW b.l b.s).fst.a.inst/\(z8 a).fst.a.side=(zW b.l b.s).fst.a.side/\(z8 a).fst.b.inst=(zW b.l b.s).fst.b.inst/\(z8 a).fst.b.side=(zW b.l b.s).fst.b.side/\(z8 a).snd.fst=(zW b.l b.s).snd/\(z8 a).snd.snd=(zW b.l b.s).snd/\zJa a c d
def zNx (a:NxI) (b:BkS) (c:MSt) (d:Book):Prop:=∃(e:Unit),(z8 a).fst.price=(zY b).fst.price/\(z8 a).fst.qty=(zY b).fst.qty/\(z8 a).fst.a.inst=0/\(z8 a).fst.a.side=0/\(z8 a).fst.b.inst=0/\(z8 a).fst.b.side=0/\(z8 a).snd.fst=ao/\(z8 a).snd.snd=ap/\zJa a c d
def zLn (a:lE) (b:NxI) (c:MSt):Prop:=∃(d:BsI),aa zJ d.l=aa zJ (xW a.i (zC a.s))/\d.s=zC b.sd/\(dY d)/\∀(e:Unit),True->(0<=b.inst/\b.inst<(↑c.books.length:Int))/\b.inst.toNat<c.books.length/\∃(f:Book),c.books[b.inst.toNat]?=ar f/\∃(g:BkS),zC g.side=zC b.sd/\yA g.b=yA f/\(vK g)/\∀(h:Unit),True->∃(j:Book),yA g.b=yA j/\dh b.inst.toNat/\b.inst.toNat<c.books.length/\cnd (zY g).snd (cnd (zW d.l d.s).snd (∃(k:I3'),k.side=zC b.sd/\k.x=(zW d.l d.s).fst.price/\k.y=(zY g).fst.price/\True/\∀(l:Unit),True->cnd (!btr k.side k.x k.y) (zNx b g c j) (zMm b d c j)) (zNx b g c j)) (zMm b d c j)
def zWz (a:MSt) (b:NxI):Prop:=(zIh a b)/\∃(c:lE),sb c.i.p.code=sb b.s.p.code/\iE c.i.p.months=iE a.p.months/\c.i.p.tick=b.s.p.tick/\c.i.p.low=b.s.p.low/\c.i.p.high=b.s.p.high/\c.i.p.wide=b.s.p.wide/\c.i.p.rule=b.s.p.rule/\c.i.p.top=b.s.p.top/\c.i.p.least=b.s.p.least/\c.i.p.part=b.s.p.part/\iE c.i.p.settle=iE a.p.settle/\aa z6 c.i.tops=aa z6 a.tops/\c.i.inst=b.inst/\zC c.s=zC b.sd/\(kL c)/\∀(d:Unit),True->zLn c b a
def dE (a:MSt):Prop:=a.books.length<=1000000/\∀(b:Book),b∈a.books->∀(c:cQ),c∈b.a.queues->(-9223372036854775808)<=c.count/\c.count<=9223372036854775807
def yRh (i:NxI):Prop:=
 (∃(a:MSt),sb a.p.code=sb i.s.p.code/\a.p.tick=i.s.p.tick/\a.p.low=i.s.p.low/\a.p.high=i.s.p.high/\a.p.wide=i.s.p.wide/\a.p.rule=i.s.p.rule/\a.p.top=i.s.p.top/\a.p.least=i.s.p.least/\a.p.part=i.s.p.part/\af 197 Book 6 zR a.books au=af 197 Book 6 zR i.s.books au/\yR a.wh=yR i.s.wh/\ae 1 (iE a.p.months)=ae 1 (iE i.s.p.months)/\ae 1 (iE a.p.settle)=ae 1 (iE i.s.p.settle)/\(dE a)/\∀(b:Unit),True->(zIh a i)/\(∃(c:lE),sb c.i.p.code=sb i.s.p.code/\iE c.i.p.months=iE a.p.months/\c.i.p.tick=i.s.p.tick/\c.i.p.low=i.s.p.low/\c.i.p.high=i.s.p.high/\c.i.p.wide=i.s.p.wide/\c.i.p.rule=i.s.p.rule/\c.i.p.top=i.s.p.top/\c.i.p.least=i.s.p.least/\c.i.p.part=i.s.p.part/\iE c.i.p.settle=iE a.p.settle/\aa z6 c.i.tops=aa z6 a.tops/\c.i.inst=i.inst/\zC c.s=zC i.sd/\(kL c)/\∀(d:Unit),True->(zLn c i a)/\zLn c i a)/\zWz a i)/\(dh (sb i.s.p.code)/\True/\dh i.s.p.tick/\dh i.s.p.low/\dh i.s.p.high/\dh i.s.p.wide/\dh i.s.p.rule/\dh i.s.p.top/\dh i.s.p.least/\dh i.s.p.part/\True/\True)/\∃(a:MSt),sb a.p.code=sb i.s.p.code/\a.p.tick=i.s.p.tick/\a.p.low=i.s.p.low/\a.p.high=i.s.p.high/\a.p.wide=i.s.p.wide/\a.p.rule=i.s.p.rule/\a.p.top=i.s.p.top/\a.p.least=i.s.p.least/\a.p.part=i.s.p.part/\af 197 Book 6 zR a.books au=af 197 Book 6 zR i.s.books au/\yR a.wh=yR i.s.wh/\ae 1 (iE a.p.months)=ae 1 (iE i.s.p.months)/\ae 1 (iE a.p.settle)=ae 1 (iE i.s.p.settle)/\(dE a)/\∀(b:Unit),True->zWz a i
def mL (a:AtI):=(aa vE (atL a.L (zC a.s) a.price))
def zHi (a:Nat×MSt->Prop) (b:Nat×MSt) (c:Nat×MSt->Nat) (d:Nat×MSt) (e:AlI) (f:AtI) (g:BkS) (h:TrI):Prop:=a b/\c b<c d/\dh (ak 2 1 (iE (kH e)))/\dh (ae 5 (mL f))/\dh (aj [V.d (dI (dX g)),V.d (dI (uO g)),V.d (dI ((zY g).fst.count))] 127)/\dh (aj [V.d (dI h.inst),V.d (dI (zC h.sd))] 169)/\dh (ae 1 (iE h.s.p.months))/\dh (ae 1 (iE h.s.p.settle))
def gO (a:TrI):=(qX a.p a.B a.inst (zC a.sd) a.q)
def dF (a:TrI):=(kW a.B (gO a))
def yFp (i:TrI):Prop:=
 (0<=i.inst/\i.inst<(↑i.s.books.length:Int))/\i.inst.toNat<i.s.books.length/\∃(a:Book),i.s.books[i.inst.toNat]?=ar a/\∃(b:BkS),zC b.side=zC i.sd/\yA b.b=yA a/\(vK b)/\∀(c:Unit),True->∃(d:Book),yA b.b=yA d/\dh i.inst.toNat/\i.inst.toNat<i.s.books.length/\∃(e:Book),(i.s.books.set i.inst.toNat d)[i.inst.toNat]?=ar e/\∃(f:AtI),zC f.s=zC i.sd/\f.price=(zY b).fst.price/\yA f.b=yA e/\f.b.Rep f.L/\∀(g:Unit),True->∃(h:Book),yA f.b=yA h/\dh i.inst.toNat/\i.inst.toNat<(i.s.books.set i.inst.toNat d).length/\∃(j:AlI),sb j.p.code=sb i.s.p.code/\iE j.p.months=iE i.s.p.months/\j.p.tick=i.s.p.tick/\j.p.low=i.s.p.low/\j.p.high=i.s.p.high/\j.p.wide=i.s.p.wide/\j.p.rule=i.s.p.rule/\j.p.top=i.s.p.top/\j.p.least=i.s.p.least/\j.p.part=i.s.p.part/\iE j.p.settle=iE i.s.p.settle/\aa vE j.l=aa vE (atL f.L (zC f.s) f.price)/\j.q=i.q/\(j.l.length<=1000/\((-9223372036854775808)<=j.q/\j.q<=9223372036854775807)/\((-9223372036854775808)<=j.p.least/\j.p.least<=9223372036854775807)/\((-9223372036854775808)<=j.p.top/\j.p.top<=9223372036854775807)/\(-9223372036854775808)<=j.p.part/\j.p.part<=9223372036854775807)/\∀(k:Unit),True->∃(l:Nat×MSt),(↑l.fst:Int)=0/\sb l.snd.p.code=sb i.s.p.code/\l.snd.p.tick=i.s.p.tick/\l.snd.p.low=i.s.p.low/\l.snd.p.high=i.s.p.high/\l.snd.p.wide=i.s.p.wide/\l.snd.p.rule=i.s.p.rule/\l.snd.p.top=i.s.p.top/\l.snd.p.least=i.s.p.least/\l.snd.p.part=i.s.p.part/\af 197 Book 6 zR l.snd.books au=af 197 Book 6 zR ((i.s.books.set i.inst.toNat d).set i.inst.toNat h) au/\yR l.snd.wh=yR i.s.wh/\ae 1 (iE l.snd.p.months)=ae 1 (iE i.s.p.months)/\ae 1 (iE l.snd.p.settle)=ae 1 (iE i.s.p.settle)/\aa yX (i.fs l.fst)=[]/\∃(m:Nat×MSt->Prop),∃(n:Nat×MSt->Nat),m l/\∀(p:Nat×MSt),m p->cnd (decide ((↑p.fst:Int)<(↑(iE (kH j)).length:Int))) ((0<=(↑p.fst:Int)/\(↑p.fst:Int)<(↑(iE (kH j)).length:Int))/\∃(q:Int),zE (iE (kH j)) (↑p.fst:Int).toNat 0 1=ar [dI q]/\cnd (decide (q>0)) ((0<=(↑p.fst:Int)/\(↑p.fst:Int)<(↑(mL f).length:Int))/\∃(r:Int),∃(s:Int),∃(t:Int),∃(u:Int),∃(v:Bool),zE (mL f) (↑p.fst:Int).toNat 0 5=ar [dI r,dI s,dI t,dI u,D.v (.bool v)]/\∃(w:StI),w.id=r/\w.q=q/\zD w.s=zD p.snd/\(w.s.Rep w.p w.B/\w.B.length<=1000)/\∀(x:MSt),x.Rep w.p (qW w.B w.id w.q).fst->((aa yX (i.fs p.fst)).length+1)*(48:Nat)<=(140737488355328:Nat)/\∃(y:Nat×MSt),(↑y.fst:Int)=aq.wrap ((↑p.fst:Int)+1)/\zD y.snd=zD x/\aa yX (i.fs y.fst)=aa yX (i.fs p.fst)++[[dI r,dI i.inst,dI (zC i.sd),dI t,dI q,dI (aq.wrap (u-q))]]/\zHi m y n p j f b i) (∃(r:Nat×MSt),(↑r.fst:Int)=aq.wrap ((↑p.fst:Int)+1)/\zD r.snd=zD p.snd/\aa yX (i.fs r.fst)=aa yX (i.fs p.fst)/\zHi m r n p j f b i)) (∃(q:MSt),zD q=zD p.snd/\aa yX (gO i)=aa yX (i.fs p.fst)/\q.Rep i.p (dF i))
def lB {p:Prd} (hc:p.check=0) {k v:Int} (h:p.price k v=0): -2000000<=v/\v<=2000000:=by
 have ok:=kI hc;have:=ok.b1;have:=ok.b2;have:=ok.b3;have:=ok.b4;have:=ok.b5;rw[Prd.price]at h;by_cases c1:p.count=0
 ·rw[y6a c1]at h;cases h
 by_cases c2:k<0\/(p.count:Int)<=k
 ·rw[y5x c1,y6a c2]at h;cases h
 cases c3:qO p.tick v with
 |true=>rw[y5x c1,y5x c2,y6a c3]at h;cases h
 |false=>
  rw[y5x c1,y5x c2,y5x (by rw[c3];decide)]at h;by_cases c4:(p.months.length:Int)<=k
  ·simp only[y6a c4]at h;by_cases c5:v< -p.wide\/p.wide<v
   ·rw[y6a c5]at h;cases h
   ·omega
  ·simp only[y5x c4]at h;by_cases c5:v<p.low\/p.high<v
   ·rw[y6a c5]at h;cases h
   ·omega
def lP {t:Int} (k:Int):qO t (t*k)=ao:=by
 simp[qO,Int.mul_tmod_right]
def zKg (x:Prd):(kprod x).small:=by
 have:=yDy x;refine⟨by simp[kprod],?_,?_⟩
 ·show(qM _).length<=_;rw[tX];omega
 ·show(kJ _ _).length<=_;rw[mU];omega
def m4 (x:Prd):(kprod x).check=0:=by
 have ht:=zEw x;have hn:=yDy x;have hw:=yT (n:=x.wide) (lo:=0) (hi:=60) oM;have hr:=yT (n:=x.rule) (lo:=0) (hi:=2) oM;have ho:=yT (n:=x.top) (lo:=0) (hi:=9) oM;have hl:=yT (n:=x.least) (lo:=0) (hi:=4) oM;have hp:=yT (n:=x.part) (lo:=0) (hi:=100) oM;have h1:wJ (kprod x).code=ap:=by show wJ [206,169]=ap;decide+kernel
 obtain⟨k,hk,hk1⟩:∃k:Nat,(kN x).toNat=k/\(2<=k/\k<=5):=⟨_,rfl,oM⟩
 have h2:xH (kprod x).months=ap:=by
  show xH (qM (kN x).toNat)=ap;rw[hk];have:k=2\/k=3\/k=4\/k=5:=by omega
  rcases this with rfl|rfl|rfl|rfl<;>decide
 have h3:qI (kprod x)=ap:=by
  have a:qO (zU x) (-20*zU x)=ao:=by rw[xAi];exact lP _
  have b:qO (zU x) (100*zU x)=ao:=by rw[xAi];exact lP _
  have c:(kJ (zU x) (kN x).toNat).any (qO (zU x))=ao:=by
   rw[xCf];intro y hy;obtain⟨j,_,rfl⟩:=y7j.1 hy;rw[lP];decide
  simp only[qI,kprod,a,b,c,lP,xBa,Bool.and_true,y6l];exact⟨y6p oM,y6p oM⟩
 have mw:=eG (a:=zU x) (b:=5+zF x.wide 0 60) (m:=zU x) (n:=65) oM oM;have h4:qK (kprod x)=ao:=by
  simp only[qK,kprod,xAd];exact⟨⟨⟨⟨y6n oM,y6n oM⟩,y6n oM⟩,y6n oM⟩,y6n oM⟩
 have h5:xJ (kprod x)=ao:=by
  have e:(kJ (zU x) (kN x).toNat).length=(qM (kN x).toNat).length:=by rw[mU,tX]
  have ne:kJ (zU x) (kN x).toNat≠[]:=by
   intro hc;have:=mU (zU x) (kN x).toNat;rw[hc]at this;simp at this;omega
  have bd:∀y∈kJ (zU x) (kN x).toNat,0<=y/\y<=zU x*15:=by
   intro y hy;obtain⟨j,hj,rfl⟩:=y7j.1 hy;have:=y9c.1 hj;exact eG oM oM
  have m1:=bd _ (z0i ne);have m2:=bd _ (zZf ne);simp only[xJ,kprod,e,ne_eq,not_true_eq_false,decide_false,xBw,xAd];exact⟨y6n oM,y6n oM⟩
 have h6:kK (kprod x)=ao:=by
  simp only[kK,kprod,xAd];exact⟨y6n oM,y6n oM⟩
 have h7:x7 (kprod x)=ao:=by
  simp only[x7,kprod,xAd];exact⟨⟨⟨⟨⟨y6n oM,y6n oM⟩,y6n oM⟩,y6n oM⟩,y6n oM⟩,y6n oM⟩
 rw[Prd.check,h1,h2,h3,h4,h5,h6,h7];rfl
structure zWc (qs sh:List Int) (q:Int):Prop where
 len:sh.length=qs.length
 bd:∀n,0<=sh.getD n 0/\sh.getD n 0<=qs.getD n 0
 sum:sh.sum=q
def yHm:∀{l:List Int},(∀x∈l,0<=x)->0<=l.sum
 |[],_=>y9i 0
 |a::l,h=>by
  have:=yHm (l:=l) λx hx=>h x (y6g _ hx)
  have:=h a y6e;rw[y7n];omega
def z6m:∀{z:List (Int×Int)},(∀y∈z,0<=y.2/\y.2<=y.1)->(z.map (·.2)).sum<=(z.map (·.1)).sum
 |[],_=>y9i 0
 |a::l,h=>by
  have:=z6m (z:=l) λx hx=>h x (y6g _ hx)
  have:=h a y6e;rw[y6m,y6m,y7n,y7n];omega
def lA:∀(l:List Int) (q:Int),(∀x∈l,0<=x)->0<=q->q<=l.sum->zWc l (uY l q) q
 |[],q,_,h0,h1=>⟨rfl,λn=>by simp[uY],by simp at h1;simp[uY];omega⟩
 |n::l,q,h,h0,h1=>by
  have hn:=h n y6e;rw[y7n]at h1;have:=yHm λx hx=>h x (y6g _ hx)
  have ih:=lA l (q-min n q) (λx hx=>h x (y6g _ hx)) oM oM;refine⟨by rw[uY,y6d,y6d,ih.len],λk=> ?_,by rw[uY,y7n,ih.sum];omega⟩;cases k with
  |zero=>exact⟨by show 0<=min n q;omega,by show min n q<=n;omega⟩
  |succ k=>exact ih.bd k
def zBl:∀(z:List (Int×Int)) (q:Int),(∀y∈z,0<=y.2/\y.2<=y.1)->0<=q->q<=(z.map (·.1)).sum-(z.map (·.2)).sum->(wA z q).length=z.length/\(∀n,0<=(wA z q).getD n 0/\(wA z q).getD n 0<=(z.map (·.1)).getD n 0)/\(wA z q).sum=(z.map (·.2)).sum+q
 |[],q,_,h0,h1=>⟨rfl,λn=>by simp[wA],by simp at h1;simp[wA];omega⟩
 |(n,x)::r,q,h,h0,h1=>by
  have hn:=h (n,x) y6e;simp only[y6m,y7n]at h1;have:=z6m λy hy=>h y (y6g _ hy)
  have ih:=zBl r (q-min (n-x) q) (λy hy=>h y (y6g _ hy)) oM oM;refine⟨by rw[wA,y6d,y6d,ih.1],λk=> ?_,by rw[wA,y7n,ih.2.2,y6m,y7n];omega⟩;cases k with
  |zero=>exact⟨by show 0<=x+min (n-x) q;have:=hn.1;have:=hn.2;dsimp only at*;omega,by show x+min (n-x) q<=n;have:=hn.2;dsimp only at*;omega⟩
  |succ k=>exact ih.2.1 k
def yHr {l:List Int} {q:Int} (h1:l.length<=250) (h2:0<=q) (h3:∀x∈l,1<=x/\x<=1000000) (h4:q<=l.sum):yW l q=ap:=by
 rw[yW,y6p h1,y6p h2,y6p h4];simp only[y8v,Bool.and_true,y9e,y6l,y7m];exact h3
def zUi {i:PlI} (h:yW i.l i.q=ap) (hl:1<=i.least):zWc i.l (jD i) i.q:=by
 obtain⟨r1,r2,r3,r4⟩:=jH h;rw[jD,y6a ⟨h,hl⟩];by_cases hne:i.l.length=0
 ·have e:i.l=[]:=y6y hne;have hq:i.q=0:=by rw[e]at r4;simp at r4;omega
  have e0:i.p1=[]:=by rw[PlI.p1,e];rfl
  rw[e0,e,hq];exact⟨rfl,λn=>by simp,rfl⟩
 ·obtain⟨_,_,f1,f2⟩:=zDv h oM;have hpl:=z4v i;have m1:(i.l.zip i.p0).map (·.1)=i.l:=List.map_fst_zip oM
  have m2:(i.l.zip i.p0).map (·.2)=i.p0:=List.map_snd_zip oM
  have hp:=zBl (i.l.zip i.p0) (i.q-i.p0.sum) (λy hy=>by
   obtain⟨j,hj⟩:=y8p.1 hy;rw[xAq]at hj;exact f1 j _ _ hj.1 hj.2) oM (by rw[m1,m2];omega)
  rw[m1,m2]at hp;refine⟨?_,hp.2.1,?_⟩
  ·rw[PlI.p1,hp.1,List.length_zip,hpl,Nat.min_self]
  ·rw[PlI.p1,hp.2.2];omega
def zUj:∀{l:List Int} {k:Nat} {x:Int},k<l.length->(l.set k x).sum=l.sum+(x-l.getD k 0)
 |[],k,x,h=>absurd h (by simp)
 |a::l,0,x,_=>by
  show x+l.sum=a+l.sum+(x-a);omega
 |a::l,k+1,x,h=>by
  have:=zUj (l:=l) (k:=k) (x:=x) (by simpa using h);show a+(l.set k x).sum=a+l.sum+(x-l.getD k 0);omega
def zQh {l:List Int} {k n:Nat} {x:Int} (h:k<l.length):(l.set k x).getD n 0=if n=k then x else l.getD n 0:=by
 rw[y6h,y9o];by_cases e:k=n
 ·subst e;rw[y6a rfl,y6a h,y6a rfl];rfl
 ·rw[y5x e,y5x (λe2=>e e2.symm),y6h]
def zYt {l:List Int}:∀(z:List (Nat×Int)) (o:List Int),(z.map (·.1)).Nodup->(∀y∈z,y.1<o.length/\0<=y.2/\o.getD y.1 0+y.2<=l.getD y.1 0)->(∀n,0<=o.getD n 0/\o.getD n 0<=l.getD n 0/\l.getD n 0<=1000000)->
 (z.foldl (λo y=>o.set y.1 (aq.wrap (o.getD y.1 0+y.2))) o).length=o.length/\(z.foldl (λo y=>o.set y.1 (aq.wrap (o.getD y.1 0+y.2))) o).sum=o.sum+(z.map (·.2)).sum/\∀n,0<=(z.foldl (λo y=>o.set y.1 (aq.wrap (o.getD y.1 0+y.2))) o).getD n 0/\(z.foldl (λo y=>o.set y.1 (aq.wrap (o.getD y.1 0+y.2))) o).getD n 0<=l.getD n 0
 |[],o,_,_,h=>⟨rfl,by simp,λn=>⟨(h n).1,(h n).2.1⟩⟩
 |y::z,o,hn,hz,h=>by
  obtain⟨h1,h2,h3⟩:=hz y y6e;rw[y6m,y8o]at hn;have hw:aq.wrap (o.getD y.1 0+y.2)=o.getD y.1 0+y.2:=by
   have:=h y.1;exact w64 oM
  rw[y9r,hw];have ih:=zYt (l:=l) z (o.set y.1 (o.getD y.1 0+y.2)) hn.2 (λx hx=>by
   obtain⟨g1,g2,g3⟩:=hz x (y6g _ hx);have hne:x.1≠y.1:=λe=>hn.1 (e▸y7b (f:=(·.1)) hx)
   rw[y7g,zQh h1,y5x hne];exact⟨g1,g2,g3⟩) (λn=>by
   rw[zQh h1];split
   ·rename_i e;rw[e];exact⟨by have:=h y.1;omega,h3,(h y.1).2.2⟩
   ·exact h n)
  refine⟨by rw[ih.1,y7g],?_,ih.2.2⟩;rw[ih.2.1,zUj h1,y6m,y7n];omega
def zMg (l:List Int):(List.range l.length).map (λn=>l.getD n 0)=l:=by
 apply y9v;intro n;rw[y7p];by_cases h:n<l.length
 ·rw[xAg h,y6z h,y8b,y6h,y6z h];rfl
 ·rw[y7c (by simpa using h),y7c (by omega)];rfl
def z7f {f g:Nat->Int}:∀l:List Nat,(l.map λn=>f n-g n).sum=(l.map f).sum-(l.map g).sum
 |[]=>rfl
 |a::l=>by rw[y6m,y6m,y6m,y7n,y7n,y7n,z7f l];omega
def zNv {f:Nat->Int} {p:Nat->Bool}:∀{l:List Nat},(∀n∈l,p n=ao->f n=0)->((l.filter p).map f).sum=(l.map f).sum
 |[],_=>rfl
 |a::l,h=>by
  have ih:=zNv (l:=l) λn hn=>h n (y6g _ hn)
  rw[y6m,y7n];by_cases e:p a=ap
  ·rw[xAw e,y6m,y7n,ih]
  ·rw[xAx e,ih,h a y6e (by simpa using e)];omega
def eI {i:RsI} (hl:i.l.length<=250) (ho:i.out.length=i.l.length) (hn:∀n,0<=i.out.getD n 0/\i.out.getD n 0<=i.l.getD n 0/\i.l.getD n 0<=1000000) (hq:0<=i.q/\i.q<=i.l.sum-i.out.sum) (hle:1<=i.least):
 zWc i.l (pM i) (i.out.sum+i.q):=by
 have hidx:(i.idx i.l.length).length<=250:=y8u (y9l _ _) (by simpa using hl);have hmem:∀n∈i.idx i.l.length,n<i.l.length/\i.out.getD n 0<i.l.getD n 0:=by
  intro n hn;obtain⟨a,b⟩:=y7y.1 hn;exact⟨y9c.1 a,y7f b⟩
 have hls:(i.left i.l.length).sum=i.l.sum-i.out.sum:=by
  rw[RsI.left,RsI.idx,zNv,z7f,zMg]
  ·rw[<- ho,zMg]
  ·intro n _ e;have:=xAn e;have:=hn n;omega
 have hr:yW (i.left i.l.length) i.q=ap:=by
  refine yHr (by rw[RsI.left,y5z];exact hidx) hq.1 (λx hx=> ?_) oM;obtain⟨n,hm,rfl⟩:=y7j.1 hx;have:=hmem n hm;have:=hn n;omega
 have hp:=zUi (i:=⟨i.left i.l.length,i.least,i.q⟩) hr hle;have hpl:i.pl.length=(i.idx i.l.length).length:=by
  have:=hp.len;rw[RsI.pl,this,RsI.left,y5z]
 have hnd:(i.idx i.l.length).Nodup:=List.nodup_range.sublist xBu;have z1:((i.idx i.l.length).zip i.pl).map (·.1)=i.idx i.l.length:=List.map_fst_zip oM
 have z2:((i.idx i.l.length).zip i.pl).map (·.2)=i.pl:=List.map_snd_zip oM
 have hf:=zYt (l:=i.l) ((i.idx i.l.length).zip i.pl) i.out (by rw[z1];exact hnd) (λy hy=>by
  obtain⟨j,hj⟩:=y8p.1 hy;rw[xAq]at hj;have hm:=hmem y.1 (y6j hj.1);have hb:=hp.bd j;have e1:(jD ⟨i.left i.l.length,i.least,i.q⟩).getD j 0=y.2:=by
   rw[y6h];have:(jD ⟨i.left i.l.length,i.least,i.q⟩)[j]? =ar y.2:=hj.2;rw[this];rfl
  have e2:(i.left i.l.length).getD j 0=i.l.getD y.1 0-i.out.getD y.1 0:=by
   rw[y6h,RsI.left,y7p,hj.1];rfl
  dsimp only at hb;rw[e1,e2]at hb;exact⟨oM,hb.1,oM⟩) hn
 have hall:pM i=((i.idx i.l.length).zip i.pl).foldl (λo y=>o.set y.1 (aq.wrap (o.getD y.1 0+y.2))) i.out:=by
  rw[pM,RsI.add,y6k (by rw[List.length_zip];omega)]
 rw[hall];refine⟨by rw[hf.1,ho],hf.2.2,?_⟩;rw[hf.2.1,z2];have:=hp.sum;rw[RsI.pl,this]
def z8a {l:List Int} (h:∀x∈l,1<=x/\x<=1000000) (n:Nat):0<=l.getD n 0/\l.getD n 0<=1000000:=by
 by_cases hn:n<l.length
 ·obtain⟨x,hx⟩:=yC hn;have:=h x (y6j hx);rw[zT hx];omega
 ·rw[y6h,y7c (by omega)];decide
def yYg (n k:Nat):(ab n (0:Int)).getD k 0=0:=by
 rw[y6h,List.getElem?_replicate];split<;>rfl
def zNd (n:Nat):(ab n (0:Int)).sum=0:=by
 induction n with
 |zero=>rfl
 |succ n ih=>rw[xAf,y7n,ih];rfl
def yYk {q part:Int} (hq:0<=q) (h0:0<=part) (h1:part<=100):0<=q*part / 100/\q*part / 100<=q:=by
 have h2:0<=q*part:=xCh hq h0;have h3:q*part<=q*100:=xAv h1 hq;constructor<;>omega
def zVu {p:Prd} (hc:p.check=0) {l:List zH} {q:Int} (hr:yW (l.map (·.qty)) q=ap):zWc (l.map (·.qty)) (kH ⟨p,l,q⟩) q:=by
 have ok:=kI hc;obtain⟨r1,r2,r3,r4⟩:=jH hr;have q1:=ok.q1;have q3:=ok.q3;have q5:=ok.q5;have q6:=ok.q6;have r5:=ok.r1;have r6:=ok.r2;have gb:=z8a r3;have eqs:(AlI.qs ⟨p,l,q⟩)=l.map (·.qty):=rfl
 rw[kH];simp only[eqs];generalize l.map (·.qty)=qs at*
 by_cases c1:p.rule=1
 ·rw[y6a c1,gD,y6a hr];exact lA _ _ (λx hx=>by have:=r3 x hx;omega) r2 r4
 by_cases c2:p.rule=2
 ·rw[y5x c1,y6a c2,zEx,y6a ⟨hr,q3,q1⟩];rw[PsI.rs];dsimp only;split
  ·rename_i ht;have hk:(topI l).toNat<(ab qs.length (0:Int)).length:=by simp;omega
   have hf:0<=PsI.first ⟨qs,topI l,p.top,p.least,q⟩/\PsI.first ⟨qs,topI l,p.top,p.least,q⟩<=qs.getD (topI l).toNat 0/\PsI.first ⟨qs,topI l,p.top,p.least,q⟩<=q:=by
    have:=gb (topI l).toNat;simp only[PsI.first];omega
   have hs:((ab qs.length (0:Int)).set (topI l).toNat (PsI.first ⟨qs,topI l,p.top,p.least,q⟩)).sum=PsI.first ⟨qs,topI l,p.top,p.least,q⟩:=by
    rw[zUj hk,zNd,yYg];omega
   have:=eI (i:=⟨qs,(ab qs.length 0).set (topI l).toNat (PsI.first ⟨qs,topI l,p.top,p.least,q⟩),p.least,q-PsI.first ⟨qs,topI l,p.top,p.least,q⟩⟩) r1 (by simp) (λn=>by
    dsimp only;rw[zQh hk,yYg];have:=gb n;split
    ·rename_i e;rw[e];exact⟨hf.1,hf.2.1,(gb _).2⟩
    ·omega) (by dsimp only;rw[hs];omega) q3
   dsimp only at this;rw[hs]at this;have e:PsI.first ⟨qs,topI l,p.top,p.least,q⟩+(q-PsI.first ⟨qs,topI l,p.top,p.least,q⟩)=q:=by omega
   rw[e]at this;exact this
  ·have:=eI (i:=⟨qs,ab qs.length 0,p.least,q⟩) r1 (by simp) (λn=>by
    dsimp only;rw[yYg];have:=gb n;omega) (by dsimp only;rw[zNd];omega) q3
   dsimp only at this;rw[zNd,Int.zero_add]at this;exact this
 ·have c3:p.rule=3:=by omega
  rw[y5x c1,y5x c2,y6a c3,zCt,y6a ⟨hr,q5,q6,q3⟩];rw[SpI.rs];dsimp only;obtain⟨d1,d2⟩:=yYk r2 q5 q6;have hr2:yW qs (q*p.part / 100)=ap:=yHr r1 d1 r3 oM;have hfs:=lA qs (q*p.part / 100) (λx hx=>by have:=r3 x hx;omega) d1 oM;have e0:gD qs (q*p.part / 100)=uY qs (q*p.part / 100):=by rw[gD,y6a hr2]
  have:=eI (i:=⟨qs,gD qs (q*p.part / 100),p.least,q-q*p.part / 100⟩) r1 (by dsimp only;rw[e0];exact hfs.len) (λn=>by
   dsimp only;rw[e0];exact⟨(hfs.bd n).1,(hfs.bd n).2,(gb n).2⟩) (by dsimp only;rw[e0,hfs.sum];omega) q3
  dsimp only at this;rw[e0,hfs.sum]at this;rw[e0];have e:q*p.part / 100+(q-q*p.part / 100)=q:=by omega
  rw[e]at this;exact this
def z3x {p:Prd} {l:List zH} {q:Int} (hr:yW (l.map (·.qty)) q=ao):kH ⟨p,l,q⟩=[]:=by
 have eqs:(AlI.qs ⟨p,l,q⟩)=l.map (·.qty):=rfl
 rw[kH];simp only[eqs,gD,zEx,zCt,hr];simp
def zTr:motherC.ok Tryz.prog 183:=okw (V:=yAd) mixed gok0 0 (λ_=>[]) (λ_=>[]) [] Tryz.func183 λ(b:Bool) _=>by
 unfold yAd;cases b<;>exact⟨(),Z8,trivial⟩
def zZw:mgoodC.ok Tryz.prog 184:=okw (V:=yIs) mixed gok0 0 (λ_=>[]) (λ_=>[]) [] Tryz.func184 λ(i:GoI) _=>by
 obtain⟨s,p,x⟩:=i;unfold yIs;cases s
 ·refine Cv.cnd.mk (λ_=>zI (λc=>⟨(),?_,trivial⟩) (λc=>Cv.cnd.mk (λe=>by simp[zC]at e) (λ_=>⟨(),?_,trivial⟩))) (λe=>by simp[zC]at e)
  ·exact y6p c
  ·exact y6n c
 ·exact Cv.cnd.mk (λe=>by simp[zC]at e) (λ_=>Cv.cnd.mk (λ_=>⟨(),rfl,trivial⟩) (λe=>by simp[zC]at e))
def zYp {L:List zH} {s:Int}:((bestL L s).2=ap/\∃o∈L,o.side=s/\o.price=(bestL L s).1.price)\/(bestL L s=(⟨0,0,0⟩,ao)/\∀o∈L,o.side≠s):=by
 rw[bestL];cases hl:hJ L s with
 |nil=>
  refine .inr ⟨rfl,λo ho e=> ?_⟩;rw[hJ]at hl;cases hf:L.filter λo=>decide (o.side=s)with
  |nil=>
   rw[List.filter_eq_nil_iff]at hf;have:=hf o ho;simp[e]at this
  |cons x y=>
   rw[hf,grp]at hl;split at hl
   ·cases hl
   ·split at hl<;>cases hl
 |cons v vs=>
  refine .inl ⟨rfl,?_⟩;rw[hJ]at hl;obtain⟨o,r,e1,e2⟩:=zNn hl;have:o∈L.filter λo=>decide (o.side=s):=by rw[e1];exact y6e
  rw[y7y]at this;exact⟨o,this.1,by simpa using this.2,e2⟩
def zVy {L:List zH} {s:Int} (h:∀o∈L,-2000000<=o.price/\o.price<=2000000): -2000000<=(bestL L s).1.price/\(bestL L s).1.price<=2000000:=by
 rcases zYp (L:=L) (s:=s)with⟨_,o,ho,_,e⟩|⟨e,_⟩
 ·rw[<- e];exact h o ho
 ·rw[e];constructor<;>decide
def zLa (L:List zH):(kD L).p1=(bestL L 1).1.price/\(kD L).q1=(bestL L 1).1.qty/\(kD L).has1=(bestL L 1).2/\(kD L).p2=(bestL L 2).1.price/\(kD L).q2=(bestL L 2).1.qty/\(kD L).has2=(bestL L 2).2:=by
 have h:∀s,(bestL L s).2=ap\/bestL L s=(⟨0,0,0⟩,ao):=λs=>by
  rcases zYp (L:=L) (s:=s)with⟨h,_⟩|⟨h,_⟩
  ·exact .inl h
  ·exact .inr h
 rw[kD,Top.sell,Top.buy];rcases h 1 with h1|h1<;>rcases h 2 with h2|h2<;>simp[h1,h2,top0]
def BOk.prices {p:Prd} {B:List (List zH)} (h:BOk p B) {k:Nat} {L:List zH} (hL:B[k]? =ar L):∀o∈L,-2000000<=o.price/\o.price<=2000000:=λo ho=>lB h.pc (h.pr k L hL o ho)
def BOk.tops {p:Prd} {B:List (List zH)} (h:BOk p B):vN (B.map kD):=by
 have:=xL p;refine⟨by rw[y5z,h.bl];omega,λt ht=> ?_⟩;obtain⟨L,hL,rfl⟩:=y7j.1 ht;obtain⟨k,hk⟩:=y8p.1 hL;have b1:=zVy (s:=1) (h.prices hk);have b2:=zVy (s:=2) (h.prices hk);rw[(zLa L).1,(zLa L).2.2.2.1];exact⟨by constructor<;>omega,by constructor<;>omega⟩
def MSt.Rep.tops {s:MSt} {p:Prd} {B:List (List zH)} (h:s.Rep p B):s.tops=B.map kD:=by
 rw[MSt.tops];apply y9v;intro k;rw[y7p,y7p];by_cases hk:k<B.length
 ·obtain⟨L,hL⟩:=yC hk;obtain⟨b,hb⟩:=yC (l:=s.books) (i:=k) (by rw[h.bl];exact hk);rw[hL,hb,y8b,y8b,(h.bk k b L hb hL).top]
 ·rw[y7c (by rw[h.bl];omega),y7c (by omega)];rfl
def MSt.Rep.cnt {s:MSt} {p:Prd} {B:List (List zH)} (h:s.Rep p B) (hB:B.length<=1000000):s.cntOk:=by
 refine⟨by rw[h.bl];exact hB,λb hb=> ?_⟩;obtain⟨k,hk⟩:=y8p.1 hb;have hlt:=(y6c.1 hk).1;rw[h.bl]at hlt;obtain⟨L,hL⟩:=yC hlt;exact(h.bk k b L hk hL).cnt
def zYh {b:Book} {L:List zH} (h:b.Rep L) (sd:Bool):b.best (b.side sd)=bestL L (zC sd):=by
 obtain⟨Q,c,ht,rfl⟩:=h;cases sd
 ·exact c.bestL (.inl rfl)
 ·exact c.bestL (.inr rfl)
def zFl (sd:Bool):zC sd=1\/zC sd=2:=by cases sd;exact .inl rfl;exact .inr rfl
def y2h (i:NxI) (h:nextC.cnd i):yRh i:=by
 obtain⟨hR,hB,h0,h1⟩:i.s.Rep i.p i.B/\BOk i.p i.B/\0<=i.inst/\i.inst<i.B.length:=h;have hcl:=xL i.p;have hbl:=hB.bl;have hsl:=hR.bl;obtain⟨k,hk⟩:∃k:Nat,i.inst=k:=⟨i.inst.toNat,oM⟩
 obtain⟨L,hL⟩:=yC (l:=i.B) (i:=k) oM;obtain⟨b,hb⟩:=yC (l:=i.s.books) (i:=k) oM;have hbR:=hR.bk k b L hb hL;have hps:i.s.p.small:=by rw[hR.ep];exact hB.ps
 have hto:vN i.s.tops:=by rw[hR.tops];exact hB.tops
 have hnx:yU i.p i.B i.inst (zC i.sd)=if((bestL L (zC i.sd)).2 && !((zW (xW ⟨i.s.p,i.s.tops,i.inst⟩ (zC i.sd)) (zC i.sd)).2 && btr (zC i.sd) (zW (xW ⟨i.s.p,i.s.tops,i.inst⟩ (zC i.sd)) (zC i.sd)).1.price (bestL L (zC i.sd)).1.price))=ap then(⟨(bestL L (zC i.sd)).1.price,(bestL L (zC i.sd)).1.qty,⟨0,0⟩,⟨0,0⟩⟩,ao,ap)else((zW (xW ⟨i.s.p,i.s.tops,i.inst⟩ (zC i.sd)) (zC i.sd)).1,(zW (xW ⟨i.s.p,i.s.tops,i.inst⟩ (zC i.sd)) (zC i.sd)).2,(zW (xW ⟨i.s.p,i.s.tops,i.inst⟩ (zC i.sd)) (zC i.sd)).2):=by
  rw[yU,hR.tops,hR.ep,hk,y6r,zT hL]
 have hbest:=zYh hbR i.sd;unfold yRh dE zWz kL fF zLn vK zNx zY zMm z8 zJa dY zIh;have hcnt:i.s.cntOk:=hR.cnt oM;have hql:(xW ⟨i.s.p,i.s.tops,i.inst⟩ (zC i.sd)).length<=1000000:=by
  have:=y8u (y9l (λq=>decide (i.s.p.price i.inst q.price=0)) _) (zFw ⟨i.s.p,i.s.tops,i.inst⟩ (zC i.sd));exact y8u this Z8
 refine(λhT=>⟨⟨i.s,rF8 (rF4 ⟨rfl,hcnt,λ_ _=>⟨⟨rfl,trivial,rF7 ⟨rfl,trivial,trivial⟩⟩,⟨⟨⟨i.s.p,i.s.tops,i.inst⟩,i.sd⟩,rF8 (rF5 ⟨rfl,⟨hps,hto⟩,λ_ _=>⟨hT,hT⟩⟩)⟩,⟨rfl,trivial,rF7 ⟨rfl,trivial,trivial⟩⟩,⟨⟨⟨i.s.p,i.s.tops,i.inst⟩,i.sd⟩,rF8 (rF5 ⟨rfl,⟨hps,hto⟩,λ_ _=>hT⟩)⟩⟩⟩)⟩,
  ⟨rfl,trivial,rF7 ⟨rfl,trivial,trivial⟩⟩,⟨i.s,rF8 (rF4 ⟨rfl,hcnt,λ_ _=>⟨⟨rfl,trivial,rF7 ⟨rfl,trivial,trivial⟩⟩,⟨⟨⟨i.s.p,i.s.tops,i.inst⟩,i.sd⟩,rF8 (rF5 ⟨rfl,⟨hps,hto⟩,λ_ _=>hT⟩)⟩⟩⟩)⟩⟩) ?_
 refine⟨⟨xW ⟨i.s.p,i.s.tops,i.inst⟩ (zC i.sd),zC i.sd⟩,rfl,rfl,⟨zFl _,hql⟩,λ_ _=>⟨⟨h0,oM⟩,oM,b,by rw[hk];exact hb,⟨i.sd,b⟩,rfl,rfl,hbR.cnt,λ_ _=>⟨b,rfl,rfl,oM,?_⟩⟩⟩;dsimp only;rw[hbest];generalize bestL L (zC i.sd)=l at*;generalize zW (xW ⟨i.s.p,i.s.tops,i.inst⟩ (zC i.sd)) (zC i.sd)=bq at*;have hset:i.s.books.set i.inst.toNat b=i.s.books:=vM (by rw[hk];exact hb);rw[hset];refine Cv.cnd.mk (λc1=>Cv.cnd.mk (λc2=>⟨⟨zC i.sd,bq.1.price,l.1.price⟩,rfl,rfl,rfl,trivial,λ_ _=>Cv.cnd.mk (λc3=> ?_) (λc3=> ?_)⟩) (λc2=> ?_)) (λc1=> ?_)
 ·dsimp only at c3;rw[y6a (by rw[c1,c2];simpa using c3)]at hnx;rw[hnx];exact⟨(),k0q⟩
 ·dsimp only at c3;rw[y5x (by rw[c1,c2];simpa using c3)]at hnx;rw[hnx];exact⟨(),k0q⟩
 ·rw[y6a (by rw[c1,c2];rfl)]at hnx;rw[hnx];exact⟨(),k0q⟩
 ·rw[y5x (by rw[c1];simp)]at hnx;rw[hnx];exact⟨(),k0q⟩
def yOb:nextC.ok Tryz.prog 190:=okw mixed (gokc zYf (gokc zRx (gokc zYy (gokc zLl (gokc mM gok0))))) 0 (λ_=>[]) (λ_=>[]) [0] Tryz.func190 y2h
def z8q (i:RsI) (k:Nat):(i.add k).length=i.out.length:=by
 have:∀(l:List (Nat×Int)) (o:List Int),(l.foldl (λo y=>o.set y.1 (aq.wrap (o.getD y.1 0+y.2))) o).length=o.length:=by
  intro l
  induction l with
  |nil=>intro o;rfl
  |cons x l ih=>intro o;rw[y9r,ih,y7g]
 exact this _ _
def zXy (l:List Int) (q:Int):(gD l q).length<=l.length:=by
 rw[gD];split
 ·rw[eL];exact y6v _
 ·exact y7e _
def yAj (i:AlI):(kH i).length<=i.l.length:=by
 have hq:i.qs.length=i.l.length:=by simp[AlI.qs]
 rw[kH,<- hq]
 repeat' split
 ·exact zXy _ _
 ·rw[zEx];split
  ·rw[pM,z8q,PsI.rs];split
   ·simp
   ·simp
  ·exact y7e _
 ·rw[zCt];split
  ·rw[pM,z8q];exact zXy _ _
  ·exact y7e _
 ·exact y7e _
def zMf {inst s:Int}:∀{os:List zH} {sh:List Int} {j:Nat} {o:zH} {k:Int},os[j]? =ar o->sh[j]? =ar k->xX inst s (os.take (j+1)) (sh.take (j+1))=xX inst s (os.take j) (sh.take j)++(if 0<k then[⟨o.id,inst,s,o.price,k,o.qty-k⟩]else[])
 |[],_,_,_,_,h,_=>by simp at h
 |_::_,[],_,_,_,_,h=>by simp at h
 |o::os,k::sh,0,_,_,h,h2=>by
  cases h;cases h2;rw[y7k,y7k,xAm,xAm,xAm,xAm,xX];split<;>rfl
 |o::os,k::sh,j+1,o',k',h,h2=>by
  rw[y7k,y7k,xX,y7k,y7k,xX,zMf (os:=os) (sh:=sh) (j:=j) h h2];split<;>rfl
def zTj {inst s:Int}:∀(os:List zH) (sh:List Int),xX inst s (os.take sh.length) (sh.take sh.length)=xX inst s os sh
 |[],sh=>by simp
 |_::_,[]=>by simp[xX]
 |o::os,k::sh=>by
  rw[y6d,y7k,y7k,xX,xX,zTj os sh]
def yCq (B:List (List zH)) (a b:List cK):kW B (a++b)=kW (kW B a) b:=xAu
def pP (B:List (List zH)) (id q:Int):(qW B id q).1.length=B.length:=by
 rw[qW];split
 ·rfl
 ·simp
def uS:∀(fs:List cK) (B:List (List zH)),(kW B fs).length=B.length
 |[],B=>rfl
 |f::fs,B=>by
  show(kW (qW B f.id f.qty).1 fs).length=_;rw[uS fs,pP]
def yUo {p:Prd} (h:p.check=0):i64r p.least/\i64r p.top/\i64r p.part:=by
 have ok:=kI h;have:=ok.q1;have:=ok.q2;have:=ok.q3;have:=ok.q4;have:=ok.q5;have:=ok.q6;exact⟨⟨oM,oM⟩,⟨oM,oM⟩,⟨oM,oM⟩⟩
def yTx (i:TrI) (h:tradeC.cnd i):yFp i:=by
 obtain⟨hR,hB,h0,h1,hq⟩:i.s.Rep i.p i.B/\BOk i.p i.B/\0<=i.inst/\i.inst<i.B.length/\i64r i.q:=h;have hcl:=xL i.p;have hbl:=hB.bl;have hsl:=hR.bl;have ep:=hR.ep;obtain⟨k,hk⟩:∃k:Nat,i.inst=k:=⟨i.inst.toNat,oM⟩
 obtain⟨L,hL⟩:=yC (l:=i.B) (i:=k) oM;obtain⟨b,hb⟩:=yC (l:=i.s.books) (i:=k) oM;have hbR:=hR.bk k b L hb hL;have hbest:=zYh hbR i.sd;have hos:atL L (zC i.sd) (bestL L (zC i.sd)).1.price=i.os:=by rw[TrI.os,zVp,hk,y6r,zT hL]
 have hset:i.s.books.set i.inst.toNat b=i.s.books:=vM (by rw[hk];exact hb);have hosl:i.os.length<=250:=by
  rw[<- hos];exact y8u (y9l _ _) hbR.ords.2.2
 have hsh:i.sh.length<=i.os.length:=yAj _;obtain⟨k1,k2,k3⟩:=yUo hB.pc;have hsb:∀(j:Nat) (n:Int),i.sh[j]? =ar n->n<=1000000:=by
  intro j n hn;cases hr:yW (i.os.map (·.qty)) i.q with
  |false=>
   have:i.sh=[]:=z3x hr;rw[this]at hn;cases hn
  |true=>
   have:=(zVu hB.pc hr).bd j;have e:(kH ⟨i.p,i.os,i.q⟩).getD j 0=n:=zT hn;rw[e]at this;have:=(z8a (jH hr).2.2.1 j).2;omega
 unfold yFp zHi uO dX mL dF gO zY vK dI;refine⟨⟨h0,oM⟩,oM,b,by rw[hk];exact hb,⟨i.sd,b⟩,rfl,rfl,hbR.cnt,λ_ _=> ?_⟩;refine⟨b,rfl,rfl,oM,b,by rw[hset,hk];exact hb,⟨b,L,i.sd,(bestL L (zC i.sd)).1.price⟩,rfl,by dsimp only;rw[hbest],rfl,hbR,λ_ _=> ?_⟩;dsimp only
 try rw[hbest]
 rw[hset,hos];refine⟨b,rfl,rfl,oM,⟨i.p,i.os,i.q⟩,by rw[ep],by rw[ep],by rw[ep],by rw[ep],by rw[ep],by rw[ep],by rw[ep],by rw[ep],by rw[ep],by rw[ep],by rw[ep],rfl,rfl,⟨Z9,hq,k1,k2,k3⟩,λ_ _=> ?_⟩;have esh:kH ⟨i.p,i.os,i.q⟩=i.sh:=rfl;rw[esh,hset,yY,y5z];refine⟨(0,i.s),rF8 (rF6 ⟨rfl,λj=>j.2.Rep i.p (kW i.B (i.fs j.1))/\j.1<=i.sh.length,λj=>i.sh.length-j.1,⟨hR,y7e _⟩,λj hj=> ?_⟩)⟩;obtain⟨hjR,hjl⟩:=hj;obtain⟨j,sj⟩:=j;dsimp only at hjR hjl ⊢;refine zI (λc=> ?_) (λc=> ?_)
 ·obtain⟨n,hn⟩:=yC (l:=i.sh) (i:=j) oM;obtain⟨o,ho⟩:=yC (l:=i.os) (i:=j) oM;have hst:=zMf (inst:=i.inst) (s:=zC i.sd) ho hn;have hoL:o∈L:=by
   have:=y6j ho;rw[<- hos]at this;exact(y7y.1 this).1
  have hoq:=(hbR.ords.1 o hoL).q;have hnb:=hsb j n hn;refine⟨⟨oM,oM⟩,n,elI hn,zI (λc2=> ?_) (λc2=> ?_)⟩
  ·rw[y6a (show 0<n from c2)]at hst;have hfl:(i.fs j).length<=j:=by
    have:∀(os:List zH) (sh:List Int),(xX i.inst (zC i.sd) os sh).length<=os.length:=by
     intro os
     induction os with
     |nil=>intro sh;exact y6v 0
     |cons o os ih=>
      intro sh;cases sh with
      |nil=>exact y7e _
      |cons k sh=>
       have:=ih sh;rw[xX];split
       ·simp only[y6d];omega
       ·simp only[y6d];omega
    exact y8u (this _ _) (by rw[y6t];omega)
   refine⟨⟨oM,oM⟩,o.id,o.side,o.price,o.qty,o.top,yUx ho,⟨sj,i.p,kW i.B (i.fs j),o.id,n⟩,rfl,rfl,rfl,⟨hjR,by dsimp only;rw[uS];omega⟩,λs' hs'=>⟨by rw[y5z];omega,(j+1,s'),wjn oM,rfl,?_,⟨?_,Z9⟩,Z9,k0q⟩⟩
   ·show aa yX (xX i.inst (zC i.sd) (i.os.take (j+1)) (i.sh.take (j+1)))=_;rw[hst,y6i,w64 (by omega)];rfl
   ·show s'.Rep i.p (kW i.B (xX i.inst (zC i.sd) (i.os.take (j+1)) (i.sh.take (j+1))));rw[hst,yCq];exact hs'
  ·rw[y5x (show ¬0<n from c2),y6w]at hst;refine⟨(j+1,sj),wjn oM,rfl,?_,⟨?_,Z9⟩,Z9,k0q⟩
   ·show aa yX (xX i.inst (zC i.sd) (i.os.take (j+1)) (i.sh.take (j+1)))=_;rw[hst];rfl
   ·show sj.Rep i.p (kW i.B (xX i.inst (zC i.sd) (i.os.take (j+1)) (i.sh.take (j+1))));rw[hst];exact hjR
 ·have hje:j=i.sh.length:=by omega
  subst hje;have hfa:i.fs i.sh.length=qX i.p i.B i.inst (zC i.sd) i.q:=zTj _ _;rw[hfa]at hjR ⊢;exact⟨sj,rfl,rfl,hjR⟩
def yGz:tradeC.ok Tryz.prog 191:=okw mixed (gokc zLl (gokc y1b (gokc yGx (gokc zGb gok0)))) 0 (λ_=>[]) (λi=>yWd i) [0] Tryz.func191 yTx
structure jZ where
 price:Int
 qty:Int
 implied:Bool
 fills:List cK
 deriving DecidableEq
def wH (t:jZ):List D:=[.v (.int .i64 t.price),.v (.int .i64 t.qty),.v (.bool t.implied),.ro 6 (t.fills.map yX)]
def aF (p:Prd) (B:List (List zH)) (inst:Int) (sd:Bool) (price qty:Int):Option (jZ×List (List zH)):=
 let n:=yU p B inst (zC (!sd))
 if(n.2.2 && (cX sd price n.1.price && decide (1<=n.1.qty)))=ap then
  if n.2.1=ap then
   let f1:=qX p B n.1.a.inst n.1.a.side (min qty n.1.qty)
   let f2:=qX p (kW B f1) n.1.b.inst n.1.b.side (min qty n.1.qty)
   ar (⟨n.1.price,min qty n.1.qty,ap,f1++f2⟩,kW (kW B f1) f2)
  else
   let f:=qX p B inst (zC (!sd)) (min qty n.1.qty)
   ar (⟨n.1.price,min qty n.1.qty,ao,f⟩,kW B f)
 else au
structure yTu where
 steps:List jZ
 left:Int
 B:List (List zH)
def zKq (p:Prd) (inst:Int) (sd:Bool) (price:Int):Nat->List (List zH)->Int->yTu
 |0,B,q=>⟨[],q,B⟩
 |n+1,B,q=>if q<=0 then⟨[],q,B⟩else match aF p B inst sd price q with
  |none=>⟨[],q,B⟩
  |some (t,B')=>let r:=zKq p inst sd price n B' (q-t.qty);⟨t::r.steps,r.left,r.B⟩
def wL (p:Prd) (B:List (List zH)) (inst:Int) (sd:Bool) (price q:Int):yTu:=zKq p inst sd price q.toNat B q
structure RunI where
 s:MSt
 p:Prd
 B:List (List zH)
 inst:Int
 sd:Bool
 price:Int
 q:Int
def RunI.r (i:RunI):yTu:=wL i.p i.B i.inst i.sd i.price i.q
def runC:Con where
 ι:=RunI
 pat:=λi=>[.nm 0 0,zA i.inst,zA (zC i.sd),zA i.price,zA i.q]
 pre:=λi=>[zD i.s]
 cnd:=λi=>i.s.Rep i.p i.B/\BOk i.p i.B/\(0<=i.inst/\i.inst<i.B.length)/\1<=i.q/\i.q<=1000000
 alts:=λi=>[{o:=MSt,res:=λ_=> .tup [.own 1,zA i.r.left],post:=λs=>[zD s,.own 290 4 (i.r.steps.map wH)],rel:=λs=>s.Rep i.p i.r.B}]
structure zOo where
 s:MSt
 B:List (List zH)
 steps:List jZ
 q:Int
def y5a:List SAnn:=[
 {ι:=zOo,slots:=λj=>[(0,.nm 0 0),(12,.own 1),(4,zA j.q)],rows:=λj=>[zD j.s,.own 290 4 (j.steps.map wH)]},
 {ι:=Unit,slots:=λ_=>[],rows:=λ_=>[],un:=3}]
def zOq (a:zOo->Nat) (b:zOo) (c:zOo) (d:RunI):Prop:=a b<a c/\dh (ae 1 (iE d.s.p.months))/\dh (ae 1 (iE d.s.p.settle))
def zEs (a:TrI):Prop:=a.s.Rep a.p a.B/\BOk a.p a.B/\0<=a.inst/\a.inst<(↑a.B.length:Int)/\(-9223372036854775808)<=a.q/\a.q<=9223372036854775807
def zPp (a:RunI) (b:zOo) (c:NxI):Prop:=∃(d:MSt),a.r.left=b.q/\zD d=zD c.s/\aa wH a.r.steps=aa wH b.steps/\d.Rep a.p a.r.B
def tY (a:TrI):=(aa yX (gO a))
def z2f (a:RunI):Prop:=∃(b:zOo),b.q=a.q/\sb b.s.p.code=sb a.s.p.code/\b.s.p.tick=a.s.p.tick/\b.s.p.low=a.s.p.low/\b.s.p.high=a.s.p.high/\b.s.p.wide=a.s.p.wide/\b.s.p.rule=a.s.p.rule/\b.s.p.top=a.s.p.top/\b.s.p.least=a.s.p.least/\b.s.p.part=a.s.p.part/\af 197 Book 6 zR b.s.books au=af 197 Book 6 zR a.s.books au/\yR b.s.wh=yR a.s.wh/\ae 1 (iE b.s.p.months)=ae 1 (iE a.s.p.months)/\ae 1 (iE b.s.p.settle)=ae 1 (iE a.s.p.settle)/\aa wH b.steps=[]/\∃(c:zOo->Prop),∃(d:zOo->Nat),c b/\∀(e:zOo),c e->cnd (decide (e.q>0)) (∃(f:Bool),zC f=zC a.sd/\True/\∀(g:Unit),True->∃(h:NxI),h.inst=a.inst/\zC h.sd=zC !f/\zD h.s=zD e.s/\(h.s.Rep h.p h.B/\BOk h.p h.B/\0<=h.inst/\h.inst<(↑h.B.length:Int))/\∀(j:Unit),True->cnd (!(z8 h).snd.snd) (zPp a e h) (∃(k:GoI),zC k.s=zC a.sd/\k.p=a.price/\k.x=(z8 h).fst.price/\True/\∀(l:Unit),True->cnd (!cX k.s k.p k.x) (zPp a e h) (cnd (z8 h).snd.fst (∃(m:TrI),m.inst=(z8 h).fst.a.inst/\zC m.sd=(z8 h).fst.a.side/\m.q=min e.q (z8 h).fst.qty/\zD m.s=zD h.s/\(zEs m)/\∀(n:MSt),n.Rep m.p (dF m)->True/\(tY m).length*(48:Nat)<=(140737488355328:Nat)/\∃(p:TrI),p.inst=(z8 h).fst.b.inst/\zC p.sd=(z8 h).fst.b.side/\p.q=min e.q (z8 h).fst.qty/\zD p.s=zD n/\(zEs p)/\∀(q:MSt),q.Rep p.p (dF p)->True/\((tY m).length+(tY p).length)*(48:Nat)<=(140737488355328:Nat)/\((aa wH e.steps).length+1)*(48:Nat)<=(140737488355328:Nat)/\∃(r:zOo),r.q=aq.wrap (e.q-min e.q (z8 h).fst.qty)/\zD r.s=zD q/\aa wH r.steps=aa wH e.steps++[[dI ((z8 h).fst.price),dI (min e.q (z8 h).fst.qty),D.v (.bool (z8 h).snd.fst),D.ro 6 (aa yX (gO m)++aa yX (gO p))]]/\c r/\zOq d r e a) (∃(m:Bool),zC m=zC a.sd/\True/\∀(n:Unit),True->dh (min e.q (z8 h).fst.qty)/\∃(p:TrI),p.inst=a.inst/\zC p.sd=zC !m/\p.q=min e.q (z8 h).fst.qty/\zD p.s=zD h.s/\(zEs p)/\∀(q:MSt),q.Rep p.p (dF p)->((aa wH e.steps).length+1)*(48:Nat)<=(140737488355328:Nat)/\∃(r:zOo),r.q=aq.wrap (e.q-min e.q (z8 h).fst.qty)/\zD r.s=zD q/\aa wH r.steps=aa wH e.steps++[[dI ((z8 h).fst.price),dI (min e.q (z8 h).fst.qty),D.v (.bool (z8 h).snd.fst),D.ro 6 (tY p)]]/\c r/\zOq d r e a)))) (∃(f:MSt),a.r.left=e.q/\zD f=zD e.s/\aa wH a.r.steps=aa wH e.steps/\f.Rep a.p a.r.B)
def cH (a:RunI):Prop:=∃(b:MSt),a.r.left=a.q/\sb b.p.code=sb a.s.p.code/\b.p.tick=a.s.p.tick/\b.p.low=a.s.p.low/\b.p.high=a.s.p.high/\b.p.wide=a.s.p.wide/\b.p.rule=a.s.p.rule/\b.p.top=a.s.p.top/\b.p.least=a.s.p.least/\b.p.part=a.s.p.part/\af 197 Book 6 zR b.books au=af 197 Book 6 zR a.s.books au/\yR b.wh=yR a.s.wh/\ae 1 (iE b.p.months)=ae 1 (iE a.s.p.months)/\ae 1 (iE b.p.settle)=ae 1 (iE a.s.p.settle)/\aa wH a.r.steps=[]/\b.Rep a.p a.r.B
def yYy (i:RunI):Prop:=
 cnd (decide (i.inst>=0)) (cnd (decide (i.inst<(↑i.s.books.length:Int))) (cnd (zC i.sd==1) (cnd (decide (i.q>=1)) (cnd (!decide (i.q<=1000000)) (cH i) (z2f i)) (cH i)) (cnd (zC i.sd==2) (cnd (decide (i.q>=1)) (cnd (!decide (i.q<=1000000)) (cH i) (z2f i)) (cH i)) (cH i))) (cH i)) (cH i)
structure QOk (T:List Top) (q:Quote):Prop where
 a:0<=q.a.inst/\q.a.inst<T.length
 b:0<=q.b.inst/\q.b.inst<T.length
 sa:q.a.side=1\/q.a.side=2
 sb:q.b.side=1\/q.b.side=2
 ne:q.a.inst≠q.b.inst
 ha:(T.getD q.a.inst.toNat top0).has q.a.side=ap
 hb:(T.getD q.b.inst.toNat top0).has q.b.side=ap
 qty:q.qty=min ((T.getD q.a.inst.toNat top0).qty q.a.side) ((T.getD q.b.inst.toNat top0).qty q.b.side)
def z4f {T:List Top} {a b:Leg} {less:Bool} {q:Quote} (h:q∈mkq T a b less) (h1:0<=a.inst/\a.inst<T.length) (h2:0<=b.inst/\b.inst<T.length) (h3:a.side=1\/a.side=2) (h4:b.side=1\/b.side=2) (hne:a.inst≠b.inst):QOk T q/\q.a=a/\q.b=b:=by
 cases less
 all_goals
  simp only[mkq,y6s,↓reduceIte]at h;split at h
  ·rename_i hc;simp only[y6l]at hc;rw[y7q]at h;subst h;exact⟨⟨h1,h2,h3,h4,hne,hc.1.1,hc.1.2,rfl⟩,rfl,rfl⟩
  ·cases h
def yXc:∀n≤6,∀k<n+n*(n-1) / 2,n<=k->(kU n k n 0).1≠(kU n k n 0).2.1:=by decide
def z6z {p:Prd} (hc:p.check=0) {k:Nat} (hk:k<p.count) (hs:(p.legs k).2.2=ap):(p.legs k).1≠(p.legs k).2.1:=by
 have m6:=(kI hc).m6;have hk':=hk;rw[Prd.count,y6a hc]at hk';by_cases h:k<p.months.length
 ·rw[Prd.legs,y5x (by omega),y6a (by omega)]at hs;cases hs
 ·rw[Prd.legs,y5x (by omega),y5x (by omega)];exact yXc p.months.length m6 k hk' oM
def yBr:∀n≤6,∀a<n,∀b<n,a<b->(yK n a:Int)+b-a-1>=n:=by decide
def zRo {p:Prd} (hc:p.check=0) {a b:Nat} (hab:a<b) (hb:b<p.months.length):(p.months.length:Int)<=(p.spread a b).1:=by
 have m6:=(kI hc).m6;have:=yBr p.months.length m6 a oM b hb hab;rw[Prd.spread,y5x (by omega)];simpa using this
def z6k {p:Prd} (hc:p.check=0) {T:List Top} (hT:T.length=p.count) {inst:Int} {s:Int} (hs:s=1\/s=2) {q:Quote} (h:q∈kO ⟨p,T,inst⟩ s):QOk T q/\0<=inst/\inst<p.count/\
 (((p.legs inst).2.2=ap/\q.a=⟨(p.legs inst).1,s⟩/\q.b=⟨(p.legs inst).2.1,3-s⟩)\/(inst<p.months.length/\q.a.inst≠inst/\(p.months.length:Int)<=q.a.inst)):=by
 rw[kO]at h;dsimp only at h;split at h
 ·cases h
 ·rename_i hn;have h0:0<=inst/\inst<p.count:=by omega
  obtain⟨k,rfl⟩:∃k:Nat,inst=k:=⟨inst.toNat,oM⟩
  have hk:k<p.count:=by omega
  have hge:=zFc hc;split at h
  ·rename_i hl;obtain⟨q',hq',rfl⟩:=y7j.1 h;have hle:=g9 hc hk;rcases hle with⟨_,l1,l2,l3,l4⟩|⟨e,_⟩
   ·obtain⟨ok,e1,e2⟩:=z4f hq' Z9 Z9 Z9 hs (λe=>z6z hc hk hl e.symm);refine⟨⟨by dsimp only[cW];omega,by dsimp only[cW];omega,hs,by dsimp only[cW];omega,z6z hc hk hl,?_,?_,?_⟩,h0.1,h0.2,.inl ⟨hl,rfl,rfl⟩⟩
    ·have:=ok.hb;rw[e2]at this;exact this
    ·have:=ok.ha;rw[e1]at this;exact this
    ·have:=ok.qty;rw[e1,e2]at this;dsimp only[cW];rw[this];exact Int.min_comm _ _
   ·rw[e]at hl;cases hl
  ·rename_i hl;have hm:k<p.months.length:=by
    rcases g9 hc hk with⟨e,_⟩|⟨_,e⟩
    ·exact absurd e hl
    ·exact e
   rcases y7d.1 h with h|h
   ·obtain⟨j,hj,h⟩:=y8r.1 h;have hj:=y9c.1 hj;rw[y6r]at hj;have s1:=bN hc (a:=k) (b:=k+1+j) oM oM;have s2:=zRo hc (a:=k) (b:=k+1+j) oM oM;have ec:((k:Int)+1+j)=((k+1+j:Nat):Int):=by omega
    rw[ec]at h;obtain⟨ok,e1,e2⟩:=z4f h Z9 Z9 hs hs Z9;exact⟨ok,h0.1,h0.2,.inr ⟨oM,by rw[e1];dsimp only;omega,by rw[e1];exact s2⟩⟩
   ·obtain⟨j,hj,h⟩:=y8r.1 h;have hj:=y9c.1 hj;rw[y6r]at hj;have s1:=bN hc (a:=j) (b:=k) oM oM;have s2:=zRo hc (a:=j) (b:=k) oM oM;obtain⟨ok,e1,e2⟩:=z4f h Z9 Z9 Z9 hs Z9;exact⟨ok,h0.1,h0.2,.inr ⟨oM,by rw[e1];dsimp only;omega,by rw[e1];exact s2⟩⟩
def zTb {s:Int}:∀(r:List Quote) (q:Quote),r.foldl (λb q=>if btr s q.price b.price then q else b) q∈q::r
 |[],q=>y6e
 |x::r,q=>by
  rw[y9r];have:=zTb (s:=s) r (if btr s x.price q.price then x else q);rcases y6q.1 this with e|h
  ·rw[e];split
   ·exact y6g _ y6e
   ·exact y6e
  ·exact y6g _ (y6g _ h)
def zGp {l:List Quote} {s:Int} (h:(zW l s).2=ap):(zW l s).1∈l:=by
 cases l with
 |nil=>cases h
 |cons q r=>exact zTb r q
def yMk (B:List (List zH)):Prop:=∀(k:Nat) (L:List zH),B[k]?=ar L->(∀o∈L,zNg o)/\(L.map (·.id)).Nodup/\L.length<=250
def MSt.Rep.ords {s:MSt} {p:Prd} {B:List (List zH)} (h:s.Rep p B):yMk B:=by
 intro k L hL;obtain⟨b,hb⟩:=yC (l:=s.books) (i:=k) (by rw[h.bl];exact(y6c.1 hL).1);exact(h.bk k b L hb hL).ords
def z8m:∀{l:List zH} {v:Lv},(∀o∈l,zNg o)->v∈grp l->1<=v.qty/\v.qty<=1000000*l.length
 |[],v,_,h=>by cases h
 |o::l,v,ho,h=>by
  have h0:=(ho o y6e).q;have ih:∀v∈grp l,1<=v.qty/\v.qty<=1000000*l.length:=λv hv=>z8m (λx hx=>ho x (y6g _ hx)) hv
  rw[grp]at h;rw[y6d];split at h
  ·rw[y7q]at h;subst h;dsimp only;omega
  ·rename_i w ws e;rw[e]at ih;have hw:=ih w y6e;split at h
   ·rcases y6q.1 h with rfl|h
    ·dsimp only;omega
    ·have:=ih v (y6g _ h);omega
   ·rcases y6q.1 h with rfl|h
    ·dsimp only;omega
    ·have:=ih v h;omega
def z3i {L:List zH} {s:Int} (h:∀o∈L,zNg o) (hl:L.length<=250) (hb:(bestL L s).2=ap):1<=(bestL L s).1.qty/\(bestL L s).1.qty<=250000000:=by
 rw[bestL]at hb ⊢;cases hl2:hJ L s with
 |nil=>rw[hl2]at hb;cases hb
 |cons v vs=>
  dsimp only;have hm:v∈grp (L.filter λo=>decide (o.side=s)):=by rw[<- hJ,hl2];exact y6e
  have:=z8m (λo ho=>h o (y7y.1 ho).1) hm;have:=y9l (λo:zH=>decide (o.side=s)) L;omega
def yIy {B:List (List zH)} {k:Nat} {L:List zH} (hL:B[k]? =ar L):(B.map kD).getD k top0=kD L:=zT (by rw[y7p,hL];rfl)
def zLq (L:List zH) {s:Int} (hs:s=1\/s=2):(kD L).has s=(bestL L s).2/\(kD L).qty s=(bestL L s).1.qty/\(kD L).price s=(bestL L s).1.price:=by
 obtain⟨e1,e2,e3,e4,e5,e6⟩:=zLa L;rcases hs with rfl|rfl
 ·exact⟨e3,e2,e1⟩
 ·exact⟨e6,e5,e4⟩
def z8s {p:Prd} {B:List (List zH)} (h:BOk p B) (ho:yMk B) {inst:Int} (hi:0<=inst/\inst<B.length) {s:Int} (hs:s=1\/s=2) (hn:(yU p B inst s).2.2=ap):
 (1<=(yU p B inst s).1.qty/\(yU p B inst s).1.qty<=250000000)/\((yU p B inst s).2.1=ap->(yU p B inst s).1∈kO ⟨p,B.map kD,inst⟩ s/\QOk (B.map kD) (yU p B inst s).1)/\
 ((yU p B inst s).2.1=ao->(bestL (B.getD inst.toNat []) s).2=ap/\(yU p B inst s).1.price=(bestL (B.getD inst.toNat []) s).1.price/\(yU p B inst s).1.qty=(bestL (B.getD inst.toNat []) s).1.qty):=by
 obtain⟨k,rfl⟩:∃k:Nat,inst=k:=⟨inst.toNat,oM⟩
 obtain⟨L,hL⟩:=yC (l:=B) (i:=k) oM;have hLo:=ho k L hL;rw[yU]at hn ⊢;rw[y6r,zT hL]at hn ⊢;split
 ·rename_i c;simp only[y6l]at c;exact⟨z3i hLo.1 hLo.2.2 c.1,⟨λe=>(by cases e),λ_=>⟨c.1,rfl,rfl⟩⟩⟩
 ·rename_i c;rw[y5x c]at hn;dsimp only at hn ⊢;have hm:=zGp hn;have ha:(zW (xW ⟨p,B.map kD,k⟩ s) s).1∈kO ⟨p,B.map kD,k⟩ s:=(y7y.1 hm).1;obtain⟨ok,_⟩:=z6k h.pc (by rw[y5z];exact h.bl) hs ha;refine⟨?_,λ_=>⟨ha,ok⟩,λe=>by rw[hn]at e;cases e⟩;generalize (zW (xW ⟨p,B.map kD,k⟩ s) s).1=q at ok;have a:=ok.a;have b:=ok.b;rw[y5z]at a b;obtain⟨La,hLa⟩:=yC (l:=B) (i:=q.a.inst.toNat) oM;obtain⟨Lb,hLb⟩:=yC (l:=B) (i:=q.b.inst.toNat) oM;have e1:=ok.ha;have e2:=ok.hb;have e3:=ok.qty;rw[yIy hLa]at e1 e3;rw[yIy hLb]at e2 e3;rw[(zLq La ok.sa).1]at e1;rw[(zLq Lb ok.sb).1]at e2;rw[(zLq La ok.sa).2.1,(zLq Lb ok.sb).2.1]at e3;have:=z3i (ho _ _ hLa).1 (ho _ _ hLa).2.2 e1;have:=z3i (ho _ _ hLb).1 (ho _ _ hLb).2.2 e2;omega
def yFi {L:List zH} {id q:Int} {o:zH} (h:o∈(xZ L id q).1):∃o'∈L,o.price=o'.price/\o.side=o'.side/\o.id=o'.id:=by
 rw[xZ]at h;split at h
 ·exact⟨o,h,rfl,rfl,rfl⟩
 split at h
 ·exact⟨o,h,rfl,rfl,rfl⟩
 obtain⟨o',ho',e⟩:=xBf.1 h;refine⟨o',ho',?_⟩;split at e
 ·split at e
  ·cases e
  ·cases e;exact⟨rfl,rfl,rfl⟩
 ·cases e;exact⟨rfl,rfl,rfl⟩
def BOk.take {p:Prd} {B:List (List zH)} (h:BOk p B) (id q:Int):BOk p (qW B id q).1:=by
 refine⟨h.pc,h.ps,by rw[pP];exact h.bl,λk L hL o ho=> ?_⟩;rw[qW]at hL;split at hL
 ·exact h.pr k L hL o ho
 ·rename_i j hj;dsimp only at hL;rcases cZ hL with⟨rfl,rfl⟩|⟨_,hL⟩
  ·obtain⟨o',ho',e,_⟩:=yFi ho;obtain⟨L',hL',_⟩:=wX hj;rw[zT hL']at ho';rw[e];exact h.pr k L' hL' o' ho'
  ·exact h.pr k L hL o ho
def BOk.takes {p:Prd}:∀{fs:List cK} {B:List (List zH)},BOk p B->BOk p (kW B fs)
 |[],B,h=>h
 |f::fs,B,h=>BOk.takes (fs:=fs) (h.take f.id f.qty)
def z0f (inst s:Int):∀(os:List zH) (sh:List Int),(xX inst s os sh).length<=os.length
 |[],sh=>y6v 0
 |o::os,[]=>y7e _
 |o::os,k::sh=>by
  have:=z0f inst s os sh;rw[xX];split
  ·simp only[y6d];omega
  ·simp only[y6d];omega
def pF {p:Prd} {B:List (List zH)} (ho:yMk B) (inst s q:Int):(qX p B inst s q).length<=250:=by
 refine y8u (z0f _ _ _ _) (y8u (y9l _ _) ?_);by_cases h:inst.toNat<B.length
 ·obtain⟨L,hL⟩:=yC h;rw[zT hL];exact(ho _ _ hL).2.2
 ·rw[y6h,y7c (by omega)];exact y7e _
def zPs {p:Prd} {B:List (List zH)} {inst:Int} {sd:Bool} {price q:Int} {t:jZ} {B':List (List zH)} (hq:1<=q) (h:aF p B inst sd price q=ar (t,B')):1<=t.qty/\t.qty<=q:=by
 rw[aF]at h;dsimp only at h;split at h
 ·rename_i c;simp only[y6l,y7m]at c;split at h
  ·cases h;dsimp only;omega
  ·cases h;dsimp only;omega
 ·cases h
def z1e {p:Prd} {inst:Int} {sd:Bool} {price:Int}:∀(m n:Nat) (B:List (List zH)) (q:Int),q.toNat<=m->q.toNat<=n->zKq p inst sd price m B q=zKq p inst sd price n B q
 |0,0,B,q,_,_=>rfl
 |0,n+1,B,q,h,_=>by rw[zKq,zKq,y6a (by omega)]
 |m+1,0,B,q,_,h=>by rw[zKq,zKq,y6a (by omega)]
 |m+1,n+1,B,q,h1,h2=>by
  rw[zKq,zKq];split
  ·rfl
  ·rename_i hq;cases hs:aF p B inst sd price q with
   |none=>rfl
   |some x=>
    obtain⟨t,B'⟩:=x;have:=zPs oM hs;dsimp only;rw[z1e m n B' (q-t.qty) (by omega) (by omega)]
def eD {p:Prd} {B:List (List zH)} {inst:Int} {sd:Bool} {price q:Int} (h:q<=0\/aF p B inst sd price q=au):wL p B inst sd price q=⟨[],q,B⟩:=by
 rw[wL];cases hn:q.toNat with
 |zero=>rfl
 |succ n=>
  rw[zKq];rcases h with h|h
  ·rw[y6a h]
  ·rw[y5x (by omega),h]
def zQc {p:Prd} {B:List (List zH)} {inst:Int} {sd:Bool} {price q:Int} {t:jZ} {B':List (List zH)} (hq:1<=q) (h:aF p B inst sd price q=ar (t,B')):
 wL p B inst sd price q=⟨t::(wL p B' inst sd price (q-t.qty)).steps,(wL p B' inst sd price (q-t.qty)).left,(wL p B' inst sd price (q-t.qty)).B⟩:=by
 have ht:=zPs hq h;rw[wL];cases hn:q.toNat with
 |zero=>omega
 |succ n=>
  rw[zKq,y5x (by omega),h];dsimp only;rw[z1e n (q-t.qty).toNat B' (q-t.qty) (by omega) (y6v _)];rfl
def fB {s:Int} (h:s=1\/s=2):zC (decide (s=2))=s:=by
 rcases h with rfl|rfl<;>rfl
def y4d (i:RunI) (h:runC.cnd i):yYy i:=by
 obtain⟨hR,hB,⟨h0,h1⟩,hq1,hq2⟩:i.s.Rep i.p i.B/\BOk i.p i.B/\(0<=i.inst/\i.inst<i.B.length)/\1<=i.q/\i.q<=1000000:=h;have hbl:=hR.bl;have hcl:=xL i.p;have hbB:=hB.bl;unfold yYy z2f dF tY gO zPp zEs zOq z8 cH dI;refine(λhT=>zI (λc=>zI (λc2=>Cv.cnd.mk (λ_=>zI (λ_=>Cv.cnd.mk (λe=>absurd hq2 (by simpa using e)) (λ_=>hT)) (λe=>absurd hq1 e)) (λe1=>Cv.cnd.mk (λ_=>zI (λ_=>Cv.cnd.mk (λe=>absurd hq2 (by simpa using e)) (λ_=>hT)) (λe=>absurd hq1 e)) (λe2=>by
  rcases zFl i.sd with e|e
  ·rw[e]at e1;cases e1
  ·rw[e]at e2;cases e2))) (λc2=>absurd oM c2)) (λc=>absurd h0 c)) ?_
 refine⟨⟨i.s,i.B,[],i.q⟩,rF8 (rF6 ⟨rfl,λj=>j.s.Rep i.p j.B/\BOk i.p j.B/\j.B.length=i.B.length/\(0<=j.q/\j.q<=i.q)/\(j.steps.length:Int)<=i.q-j.q/\i.r=⟨j.steps++(wL i.p j.B i.inst i.sd i.price j.q).steps,(wL i.p j.B i.inst i.sd i.price j.q).left,(wL i.p j.B i.inst i.sd i.price j.q).B⟩,λj=>j.q.toNat,⟨hR,hB,rfl,⟨Z9,y9i _⟩,by dsimp only;simp,rfl⟩,?_⟩)⟩;rintro⟨s,B,st,q⟩ ⟨r1,r2,r3,⟨r4,r4'⟩,r5,r6⟩;dsimp only at r1 r2 r3 r4 r4' r5 r6 ⊢;have hno (hn:q<=0\/aF i.p B i.inst i.sd i.price q=au):∃(o:MSt),i.r.left=q/\ag MSt (5:Nat) xO o=ag MSt (5:Nat) xO s/\aa wH i.r.steps=aa wH st/\o.Rep i.p i.r.B:=by
  rw[eD hn,y6w]at r6;rw[r6];exact⟨s,rF3 r1⟩
 refine zI (λc=> ?_) (λc=>hno (.inl oM));have c:0<q:=c;refine⟨i.sd,rfl,trivial,λ_ _=>⟨⟨s,i.p,B,i.inst,!i.sd⟩,rfl,rfl,rfl,⟨r1,r2,h0,Z9⟩,λ_ _=> ?_⟩⟩;dsimp only;have hni:=z8s r2 r1.ords (inst:=i.inst) ⟨h0,oM⟩ (zFl (!i.sd));have hsb:aF i.p B i.inst i.sd i.price q=(if((yU i.p B i.inst (zC (!i.sd))).2.2 && (cX i.sd i.price (yU i.p B i.inst (zC (!i.sd))).1.price && decide (1<=(yU i.p B i.inst (zC (!i.sd))).1.qty)))=ap then
  if(yU i.p B i.inst (zC (!i.sd))).2.1=ap then
   ar (⟨(yU i.p B i.inst (zC (!i.sd))).1.price,min q (yU i.p B i.inst (zC (!i.sd))).1.qty,ap,qX i.p B (yU i.p B i.inst (zC (!i.sd))).1.a.inst (yU i.p B i.inst (zC (!i.sd))).1.a.side (min q (yU i.p B i.inst (zC (!i.sd))).1.qty)++qX i.p (kW B (qX i.p B (yU i.p B i.inst (zC (!i.sd))).1.a.inst (yU i.p B i.inst (zC (!i.sd))).1.a.side (min q (yU i.p B i.inst (zC (!i.sd))).1.qty))) (yU i.p B i.inst (zC (!i.sd))).1.b.inst (yU i.p B i.inst (zC (!i.sd))).1.b.side (min q (yU i.p B i.inst (zC (!i.sd))).1.qty)⟩,kW (kW B (qX i.p B (yU i.p B i.inst (zC (!i.sd))).1.a.inst (yU i.p B i.inst (zC (!i.sd))).1.a.side (min q (yU i.p B i.inst (zC (!i.sd))).1.qty))) (qX i.p (kW B (qX i.p B (yU i.p B i.inst (zC (!i.sd))).1.a.inst (yU i.p B i.inst (zC (!i.sd))).1.a.side (min q (yU i.p B i.inst (zC (!i.sd))).1.qty))) (yU i.p B i.inst (zC (!i.sd))).1.b.inst (yU i.p B i.inst (zC (!i.sd))).1.b.side (min q (yU i.p B i.inst (zC (!i.sd))).1.qty)))
  else ar (⟨(yU i.p B i.inst (zC (!i.sd))).1.price,min q (yU i.p B i.inst (zC (!i.sd))).1.qty,ao,qX i.p B i.inst (zC (!i.sd)) (min q (yU i.p B i.inst (zC (!i.sd))).1.qty)⟩,kW B (qX i.p B i.inst (zC (!i.sd)) (min q (yU i.p B i.inst (zC (!i.sd))).1.qty)))else au):=rfl
 generalize yU i.p B i.inst (zC (!i.sd))=nb at hni hsb ⊢;refine Cv.cnd.mk (λn1=> ?_) (λn1=>⟨⟨i.sd,i.price,nb.1.price⟩,rfl,rfl,rfl,trivial,λ_ _=>Cv.cnd.mk (λn2=> ?_) (λn2=> ?_)⟩)
 ·have n1:nb.2.2=ao:=by simpa using n1
  rw[n1,y5x (by simp)]at hsb;exact hno (.inr hsb)
 ·have n2:cX i.sd i.price nb.1.price=ao:=by simpa using n2
  rw[n2,y5x (by simp)]at hsb;exact hno (.inr hsb)
 have n1:nb.2.2=ap:=by simpa using n1
 have n2:cX i.sd i.price nb.1.price=ap:=by simpa using n2
 obtain⟨⟨b1,b2⟩,hi,hr⟩:=hni n1;rw[n1,n2,y6p b1,y6a (by rfl)]at hsb;have hk:i64r (min q nb.1.qty):=by constructor<;>omega
 have hsl:(st.length+1)*48<=140737488355328:=by omega
 have beh:∀(t:jZ) (B':List (List zH)) (s':MSt),aF i.p B i.inst i.sd i.price q=ar (t,B')->s'.Rep i.p B'->BOk i.p B'->B'.length=B.length->
  (s'.Rep i.p B'/\BOk i.p B'/\B'.length=i.B.length/\(0<=q-t.qty/\q-t.qty<=i.q)/\((st++[t]).length:Int)<=i.q-(q-t.qty)/\i.r=⟨(st++[t])++(wL i.p B' i.inst i.sd i.price (q-t.qty)).steps,(wL i.p B' i.inst i.sd i.price (q-t.qty)).left,(wL i.p B' i.inst i.sd i.price (q-t.qty)).B⟩)/\(q-t.qty).toNat<q.toNat:=by
  intro t B' s' h1 h2 h3 h4;have ht:=zPs oM h1;refine⟨⟨h2,h3,oM,⟨oM,oM⟩,by rw[y5y,y8a];omega,?_⟩,oM⟩;rw[zQc (by omega) h1]at r6;rw[r6,y6f];rfl
 refine Cv.cnd.mk (λn3=> ?_) (λn3=> ?_)
 ·obtain⟨_,ok⟩:=hi n3;rw[n3,y6a rfl]at hsb;have oka:=ok.a;have okb:=ok.b;rw[y5z]at oka okb;have ea:=fB ok.sa;have eb:=fB ok.sb;refine⟨⟨s,i.p,B,nb.1.a.inst,decide (nb.1.a.side=2),min q nb.1.qty⟩,rfl,ea,rfl,rfl,⟨r1,r2,oka.1,oka.2,hk⟩,λs1 hs1=> ?_⟩;dsimp only at hs1 ⊢;rw[ea]at hs1 ⊢;have l1:=pF (p:=i.p) r1.ords nb.1.a.inst nb.1.a.side (min q nb.1.qty);have hB1:=r2.takes (fs:=qX i.p B nb.1.a.inst nb.1.a.side (min q nb.1.qty));have l2:=pF (p:=i.p) hs1.ords nb.1.b.inst nb.1.b.side (min q nb.1.qty);refine⟨trivial,by rw[y5z];omega,⟨s1,i.p,kW B (qX i.p B nb.1.a.inst nb.1.a.side (min q nb.1.qty)),nb.1.b.inst,decide (nb.1.b.side=2),min q nb.1.qty⟩,rfl,eb,rfl,rfl,⟨hs1,hB1,okb.1,by dsimp only;rw[uS];exact okb.2,hk⟩,λs2 hs2=> ?_⟩;dsimp only at hs2 ⊢;rw[eb]at hs2 ⊢;obtain⟨g1,g2⟩:=beh _ _ s2 hsb hs2 hB1.takes (by rw[uS,uS]);refine⟨trivial,by rw[y5z,y5z];omega,by rw[y5z];exact hsl,⟨s2,_,st++[_],_⟩,?_,rfl,?_,g1,g2,k0q⟩
  ·dsimp only;rw[w64 (by omega)]
  ·dsimp only;rw[y6i,n3];simp[wH]
 ·rw[n3,y5x (by decide)]at hsb;refine⟨i.sd,rfl,trivial,λ_ _=>⟨rfl,⟨s,i.p,B,i.inst,!i.sd,min q nb.1.qty⟩,rF3 ⟨rfl,⟨r1,r2,h0,Z9,hk⟩,λs1 hs1=> ?_⟩⟩⟩;dsimp only at hs1 ⊢;obtain⟨g1,g2⟩:=beh _ _ s1 hsb hs1 r2.takes (by rw[uS]);refine⟨by rw[y5z];exact hsl,⟨s1,_,st++[_],_⟩,?_,rfl,?_,g1,g2,k0q⟩
  ·dsimp only;rw[w64 (by omega)]
  ·dsimp only;rw[y6i,n3];simp[wH]
def z4s:runC.ok Tryz.prog 182:=okw mixed (gokc yOb (gokc zTr (gokc zZw (gokc yGz gok0)))) 2 (λ_=>[]) (λ_=>y5a) [0] Tryz.func182 y4d
def yGi {L:List zH} {s id p q:Int} {o:zH} (h:o∈zWv L s id p q):o.price=p\/∃o'∈L,o.price=o'.price:=by
 have key:∀X:List zH,(o∈X.takeWhile (before s p)++⟨id,s,p,q,gP L s p⟩::X.dropWhile (before s p))->o.price=p\/o∈X:=by
  intro X hX;rcases y7d.1 hX with hX|hX
  ·exact .inr (List.takeWhile_sublist _|>.subset hX)
  ·rcases y6q.1 hX with rfl|hX
   ·exact .inl rfl
   ·exact .inr (List.dropWhile_sublist _|>.subset hX)
 rw[zWv]at h;split at h
 ·rcases key _ h with h|h
  ·exact .inl h
  ·obtain⟨o',ho',_,_,e,_⟩:=z7y h;exact .inr ⟨o',ho',e⟩
 ·rcases key _ h with h|h
  ·exact .inl h
  ·exact .inr ⟨o,h,rfl⟩
def BOk.add {p:Prd} {B:List (List zH)} (h:BOk p B) (inst id s price q:Int):BOk p (z2w p B inst id s price q).1:=by
 rw[z2w];split
 ·exact h
 split
 ·exact h
 split
 ·exact h
 split
 ·exact h
 rename_i c1 _ _ c4;have c4:p.price inst price=0:=by simpa using c4
 refine⟨h.pc,h.ps,by simpa using h.bl,λk L hL o ho=> ?_⟩;dsimp only at hL;rcases cZ hL with⟨rfl,rfl⟩|⟨_,hL⟩
 ·obtain⟨L',hL'⟩:=yC (l:=B) (i:=inst.toNat) oM;rw[zT hL',zKs]at ho;have e:((inst.toNat:Nat):Int)=inst:=by omega
  repeat' split at ho
  ·exact h.pr _ L' hL' o ho
  ·exact h.pr _ L' hL' o ho
  ·exact h.pr _ L' hL' o ho
  ·rcases yGi ho with h1|⟨o',ho',h1⟩
   ·rw[h1,e];exact c4
   ·rw[h1];exact h.pr _ L' hL' o' ho'
 ·exact h.pr k L hL o ho
def BOk.new {p:Prd} (hc:p.check=0) (hp:p.small):BOk p (ab p.count []):=by
 refine⟨hc,hp,by simp,λk L hL o ho=> ?_⟩;rw[xBs (y6j hL)]at ho;cases ho
def MSt.Rep.fit {s:MSt} {p:Prd} {B:List (List zH)} (h:s.Rep p B) (hb:BOk p B):s.fit:=by
 have:=xL p;refine⟨by rw[h.ep];exact hb.ps,by rw[h.bl,hb.bl];omega,λb hm=> ?_⟩;obtain⟨k,hk⟩:=y8p.1 hm;have hlt:=(y6c.1 hk).1;rw[h.bl]at hlt;obtain⟨L,hL⟩:=yC hlt;exact(h.bk k b L hk hL).fit
def zQw (r:Nat):Bool:=decide (32<=r) && decide (r≠127) && decide (r≠65533)
def fL (s:List UInt8):Bool:=(kR s).all zQw && decide (1<=(kR s).length) && decide ((kR s).length<=12)
def labC:Con:=con1 (List UInt8) (λs=>[sV s]) (λ_=>[]) (λs=>s.length<=140737488355328) (λs=>yP (fL s)) (λ_=>[])
def y4r (s:List UInt8):List SAnn:=[{ι:=Nat×Nat,slots:=λx=>[(3,zA x.2),(7,.nm 0 0)],rows:=λx=>[.iter (sb s) x.1]}]
def j9 (n:Int):Bool:=decide (-2000000<=n) && decide (n<=2000000)
def qQ (n:Int):Bool:=decide (1<=n) && decide (n<=1000000)
def Cmd.orderE (c:Cmd):Int:=
 if c.side≠1/\c.side≠2 then 21 else if c.time<1\/3<c.time then 27 else if qQ c.qty=ao then 24 else if c.least<0\/c.qty<c.least then 28
 else if c.label≠[]/\fL c.label=ao then 29 else if j9 c.price=ao then 23 else if c.inst<0\/255<c.inst then 20 else 0
def Cmd.right (c:Cmd):Int:=
 if c.kind<1\/4<c.kind then 31 else if c.id<1\/1099511627776<c.id then 1 else if c.kind=1 then c.orderE
 else if c.kind≠2/\qQ c.qty=ao then 24 else if c.kind=4/\j9 c.price=ao then 23 else 0
def cmdOrdC:Con:=con1 Cmd (λc=>[zGc c]) (λ_=>[]) (λc=>c.label.length<=140737488355328) (λc=>zA c.orderE) (λ_=>[])
def cmdRtC:Con:=con1 Cmd (λc=>[zGc c]) (λ_=>[]) (λc=>c.label.length<=140737488355328) (λc=>zA c.right) (λ_=>[])
open Classical
def RB.byte (r:RB):Int×RB:=(qL (r.n 1).got,⟨(r.n 1).left,(r.n 1).bad⟩)
def RB.long (r:RB):Int×RB:=(aq.wrap (qL (r.n 8).got),⟨(r.n 8).left,(r.n 8).bad⟩)
def RB.endOf (r:RB):Int:=if r.b then 10 else if 0<r.l.length then 15 else 0
@[reducible] def RdB (r:RB):AObj:=Rd r.l r.b
@[reducible] def RB.ok (i:RB):Prop:=i.l.length<=1099511627776
def RB.text (r:RB):List UInt8×RB:=((r.byte.2.n r.byte.1.toNat).got,⟨(r.byte.2.n r.byte.1.toNat).left,(r.byte.2.n r.byte.1.toNat).bad⟩)
def tW (s:List UInt8):List UInt8:=lob (s.take 255).length::s.take 255
def Cmd.tail (c:Cmd):List UInt8:=
 if c.kind=1 then lob c.inst::lob c.side::lob c.time::(le c.price 8++(le c.qty 8++(le c.least 8++tW c.label)))
 else if c.kind=3 then le c.qty 8 else if c.kind=4 then le c.price 8++le c.qty 8 else[]
def Cmd.enc (c:Cmd):List UInt8:=if c.right≠0 then[]else lob c.kind::(le c.id 8++c.tail)
def xY (k id:Int) (r:RB):Cmd×RB:=
 if k=1 then
  let a:=r.byte;let b:=a.2.byte;let t:=b.2.byte;let x:=t.2.long;let y:=x.2.long;let z:=y.2.long;let w:=z.2.text
  (⟨k,id,a.1,b.1,x.1,y.1,z.1,t.1,w.1⟩,w.2)
 else if k=3 then(⟨k,id,0,0,0,r.long.1,0,0,[]⟩,r.long.2)
 else if k=4 then(⟨k,id,0,0,r.long.1,r.long.2.long.1,0,0,[]⟩,r.long.2.long.2)
 else(⟨k,id,0,0,0,0,0,0,[]⟩,r)
def xI (b:List UInt8):Cmd×Int:=
 let k:=(RB.mk b ao).byte
 if k.1<1\/4<k.1 then(cmd0,31)else
 let x:=xY k.1 k.2.long.1 k.2.long.2
 if x.2.endOf≠0 then(cmd0,12)else if x.1.right≠0 then(cmd0,x.1.right)else(x.1,0)
def Cmd.asks (c:Cmd):Cmd:=if c.kind=1 then c else if c.kind=2 then⟨2,c.id,0,0,0,0,0,0,[]⟩else if c.kind=3 then⟨3,c.id,0,0,0,c.qty,0,0,[]⟩else if c.kind=4 then⟨4,c.id,0,0,c.price,c.qty,0,0,[]⟩else cmd0
def yMi (n:Int):((lob n).toNat:Int)=n % 256:=(zLh n).symm
def nP (x:UInt8) (l:List UInt8):RB.byte ⟨x::l,ao⟩=((x.toNat:Int),⟨l,ao⟩):=by
 simp[RB.byte,RB.n,RN.got,RN.left,RN.bad,qL]
def z6l (a l:List UInt8):(RN.mk (a++l) ao a.length).got=a/\(RN.mk (a++l) ao a.length).left=l/\(RN.mk (a++l) ao a.length).bad=ao:=by
 have h:(RN.mk (a++l) ao a.length).bad=ao:=by simp[RN.bad]
 simp[RN.got,RN.left,h]
def yHj (n:Int):qL (le n 8)=n % 18446744073709551616:=by
 simp only[le,qL,yMi];omega
def zAo {n:Int} (h:i64r n) (l:List UInt8):RB.long ⟨le n 8++l,ao⟩=(n,⟨l,ao⟩):=by
 have e:(RB.mk (le n 8++l) ao).n 8=RN.mk (le n 8++l) ao (le n 8).length:=by rw[xV];rfl
 obtain⟨h1,h2,h3⟩:=z6l (le n 8) l;rw[RB.long,e,h1,h2,h3,yHj];obtain⟨ha,hb⟩:=h;have:aq.wrap (n % 18446744073709551616)=n:=by
  have e:=Cv.wrap_i64 ha hb;by_cases hn:0<=n
  ·rw[show n % 18446744073709551616=n by omega];exact e
  ·have:n % 18446744073709551616=n+18446744073709551616:=by omega
   rw[this];rw[IntKind.wrap]at e ⊢;simp only[IntKind.wrap,IntKind.bits,IntKind.signed]at e ⊢;simp at e ⊢;omega
 rw[this]
def yJc {s:List UInt8} (h:s.length<=255) (l:List UInt8):RB.text ⟨tW s++l,ao⟩=(s,⟨l,ao⟩):=by
 have ht:s.take 255=s:=y6k h;have e:((lob (s.length:Int)).toNat:Int)=s.length:=by rw[yMi];omega
 rw[tW,ht,y7o,RB.text,nP];dsimp only;rw[e];have e:(RB.mk (s++l) ao).n ((s.length:Int)).toNat=RN.mk (s++l) ao s.length:=rfl;obtain⟨h1,h2,h3⟩:=z6l s l;rw[e,h1,h2,h3]
def zZd {n:Int} (h:0<=n/\n<=255):((lob n).toNat:Int)=n:=by rw[yMi];omega
def z9x (s:List UInt8):∀(k p:Nat),s.length-p<=k->s.length-p<=4*(uZ s p).length
 |0,p,h=>by rw[vV (by omega)];simp;omega
 |k+1,p,h=>by
  by_cases hp:p<s.length
  ·have hw:=cR s hp;have h4:(Utf8.decode (sb s) p).2<=4:=by
    unfold Utf8.decode;simp only[zLd,y6l,y7m]
    repeat' split
    all_goals simp
   rw[jL hp,y6d];have:=z9x s k (p+(Utf8.decode (sb s) p).2) oM;omega
  ·rw[vV (by omega)];simp;omega
def yBe {s:List UInt8} (h:s=[]\/fL s=ap):s.length<=48:=by
 obtain rfl|h:=h
 ·simp
 ·simp only[fL,y6l,y7m]at h;have:=z9x s s.length 0 oM;rw[kR,y5z]at h;omega
def sU {c:Cmd} (h:c.right=0):(1<=c.kind/\c.kind<=4)/\(1<=c.id/\c.id<=1099511627776)/\
 (c.kind≠2->1<=c.qty/\c.qty<=1000000)/\(c.kind=1\/c.kind=4->-2000000<=c.price/\c.price<=2000000)/\
 (c.kind=1->(c.side=1\/c.side=2)/\(1<=c.time/\c.time<=3)/\(0<=c.least/\c.least<=c.qty)/\(0<=c.inst/\c.inst<=255)/\c.label.length<=48):=by
 rw[Cmd.right]at h;split at h;·cases h
 split at h;·cases h
 rename_i h1 h2;refine⟨oM,oM,?_⟩;split at h
 ·rename_i hk;rw[Cmd.orderE]at h
  iterate 7 (split at h;·cases h)
  rename_i a1 a2 a3 a4 a5 a6 a7;simp only[qQ,Bool.not_eq_false,y6l,y7m]at a3;simp only[j9,Bool.not_eq_false,y6l,y7m]at a6;refine⟨λ_=>a3,λ_=>a6,λ_=>⟨oM,oM,oM,oM,yBe ?_⟩⟩;by_cases hl:c.label=[]
  ·exact .inl hl
  ·exact .inr (by simpa[hl]using a5)
 ·rename_i hk;split at h;·cases h
  split at h;·cases h
  rename_i a1 a2;refine⟨λh2=> ?_,λh2=> ?_,λh2=>absurd h2 hk⟩
  ·simpa[h2,qQ]using a1
  ·simpa[show c.kind=4 by omega,j9]using a2
def yFa {n:Int} (h:i64r n):RB.long ⟨le n 8,ao⟩=(n,⟨[],ao⟩):=by
 have:=zAo h [];rwa [y6w]at this
def yKu {s:List UInt8} (h:s.length<=255):RB.text ⟨tW s,ao⟩=(s,⟨[],ao⟩):=by
 have:=yJc h [];rwa [y6w]at this
def yLz {c:Cmd} (h:c.right=0):xY c.kind c.id ⟨c.tail,ao⟩=(c.asks,⟨[],ao⟩):=by
 obtain⟨hk,hi,hq,hp,ho⟩:=sU h;rw[xY,Cmd.tail,Cmd.asks];by_cases h1:c.kind=1
 ·obtain⟨hs,ht,hl,hn,hb⟩:=ho h1;have hq:=hq oM;have hp:=hp (.inl h1);simp only[y6a h1];rw[nP];dsimp only;rw[nP];dsimp only;rw[nP];dsimp only;rw[zAo ⟨by omega,by omega⟩];dsimp only;rw[zAo ⟨by omega,by omega⟩];dsimp only;rw[zAo ⟨by omega,by omega⟩];dsimp only;rw[yKu (by omega),zZd (by omega),zZd (by omega),zZd (by omega)]
 ·by_cases h3:c.kind=3
  ·have hq:=hq oM;simp only[h3,y6a,y5x,show ¬((3:Int)=1)by decide,show ¬((3:Int)=2)by decide,if_false,if_true];rw[yFa ⟨by omega,by omega⟩]
  ·by_cases h4:c.kind=4
   ·have hq:=hq oM;have hp:=hp (.inr h4);simp only[h4,show ¬((4:Int)=1)by decide,show ¬((4:Int)=2)by decide,show ¬((4:Int)=3)by decide,if_false,if_true];rw[zAo ⟨by omega,by omega⟩];dsimp only;rw[yFa ⟨by omega,by omega⟩]
   ·have h2:c.kind=2:=by omega
    simp only[h2,show ¬((2:Int)=1)by decide,show ¬((2:Int)=4)by decide,show ¬((2:Int)=3)by decide,if_false,if_true]
def z1z {c:Cmd} (h:c.right=0):c.asks.right=0:=by
 obtain⟨hk,hi,hq,hp,ho⟩:=sU h;rw[Cmd.asks];split
 ·exact h
 split
 ·rw[Cmd.right];simp only[];repeat (first|rw[y5x (by omega)]|rw[y5x (by decide)]|rw[y5x (by simp)])
 split
 ·have:=hq oM;rw[Cmd.right];simp only[];rw[y5x (by decide),y5x (by omega),y5x (by decide),y5x (by simp[qQ];omega),y5x (by simp)]
 split
 ·have:=hq oM;have:=hp (.inr oM);rw[Cmd.right];simp only[];rw[y5x (by decide),y5x (by omega),y5x (by decide),y5x (by simp[qQ];omega),y5x (by simp[j9];omega)]
 ·omega
def z7t {c:Cmd} (h:c.right=0):xI c.enc=(c.asks,0):=by
 obtain⟨hk,hi,_⟩:=sU h;have e:c.enc=lob c.kind::(le c.id 8++c.tail):=by rw[Cmd.enc,y5x (by simp[h])]
 rw[xI,e,nP];dsimp only;rw[zZd (by omega),y5x (by omega),zAo ⟨by omega,by omega⟩];dsimp only;rw[yLz h];dsimp only;rw[y5x (by simp[RB.endOf]),y5x (by rw[z1z h];simp)]
end Sx
